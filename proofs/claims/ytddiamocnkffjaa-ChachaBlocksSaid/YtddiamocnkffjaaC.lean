import Derived.Test.YtddiamocnkffjaaB
import Derived.Test.YtddiamocnkffjaaK3
namespace Go.Proofs.Ytddiamocnkffjaa
open Go.RowKit Go.Proofs Go.Proofs.MyK
set_option linter.unusedSimpArgs false
set_option linter.unusedVariables false

def put4 (s : List Int) (off : Nat) (x : Int) : List Int := ((((s.set (off) (x % 256)).set (off + 1) (x / 256 % 256)).set (off + 2) (x / 65536 % 256)).set (off + 3) (x / 16777216 % 256))
theorem put4_len (s : List Int) (off : Nat) (x : Int) : (put4 s off x).length = s.length := by simp [put4]
set_option maxHeartbeats 1000000 in
theorem put4_calls (g off cap : Nat) (T : TypeId) (s : List Int) (x : Int) (hx : 0 ≤ x) (hoff : off + 4 ≤ s.length) (w : World) (hr : IRow w g T .u8 s) :
    Calls Try.prog 23 #[.slice (some ⟨g, off, none⟩) 4 cap, .int .u64 x] w fun e w' => e = .returned (.tuple #[]) ∧ IRow w' g T .u8 (put4 s off x) ∧ w.grownBy w' (some g) := by
  have c0 := hr.cell (k := off) (by omega)
  have f0 := hr.frozen (off)
  have c1 := hr.cell (k := off + 1) (by omega)
  have f1 := hr.frozen (off + 1)
  have c2 := hr.cell (k := off + 2) (by omega)
  have f2 := hr.frozen (off + 2)
  have c3 := hr.cell (k := off + 3) (by omega)
  have f3 := hr.frozen (off + 3)
  go_enter Try.func23, Try.ntmps23
  go_wp2_with fail
  refine wp_loop_rounds 5 ?_
  iterate 5
    rw [rounds_succ]
    go_wp2_with fail
  refine bodyPost_end (results_none rfl _ _ _) rfl ?_
  refine ⟨rfl, ?_, ?_⟩
  · exact IRow.set (IRow.set (IRow.set (IRow.set (hr) _ _) _ _) _ _) _ _
  · repeat (first | (with_reducible exact grown_refl _ _) | (with_reducible refine grown_drew ?_) | (with_reducible refine grown_set ?_ _ _))

def put8 (s : List Int) (off : Nat) (x : Int) : List Int := ((((((((s.set (off) (x % 256)).set (off + 1) (x / 256 % 256)).set (off + 2) (x / 65536 % 256)).set (off + 3) (x / 16777216 % 256)).set (off + 4) (x / 4294967296 % 256)).set (off + 5) (x / 1099511627776 % 256)).set (off + 6) (x / 281474976710656 % 256)).set (off + 7) (x / 72057594037927936 % 256))
theorem put8_len (s : List Int) (off : Nat) (x : Int) : (put8 s off x).length = s.length := by simp [put8]
set_option maxHeartbeats 1000000 in
theorem put8_calls (g off cap : Nat) (T : TypeId) (s : List Int) (x : Int) (hx : 0 ≤ x) (hoff : off + 8 ≤ s.length) (w : World) (hr : IRow w g T .u8 s) :
    Calls Try.prog 23 #[.slice (some ⟨g, off, none⟩) 8 cap, .int .u64 x] w fun e w' => e = .returned (.tuple #[]) ∧ IRow w' g T .u8 (put8 s off x) ∧ w.grownBy w' (some g) := by
  have c0 := hr.cell (k := off) (by omega)
  have f0 := hr.frozen (off)
  have c1 := hr.cell (k := off + 1) (by omega)
  have f1 := hr.frozen (off + 1)
  have c2 := hr.cell (k := off + 2) (by omega)
  have f2 := hr.frozen (off + 2)
  have c3 := hr.cell (k := off + 3) (by omega)
  have f3 := hr.frozen (off + 3)
  have c4 := hr.cell (k := off + 4) (by omega)
  have f4 := hr.frozen (off + 4)
  have c5 := hr.cell (k := off + 5) (by omega)
  have f5 := hr.frozen (off + 5)
  have c6 := hr.cell (k := off + 6) (by omega)
  have f6 := hr.frozen (off + 6)
  have c7 := hr.cell (k := off + 7) (by omega)
  have f7 := hr.frozen (off + 7)
  go_enter Try.func23, Try.ntmps23
  go_wp2_with fail
  refine wp_loop_rounds 9 ?_
  iterate 9
    rw [rounds_succ]
    go_wp2_with fail
  refine bodyPost_end (results_none rfl _ _ _) rfl ?_
  refine ⟨rfl, ?_, ?_⟩
  · exact IRow.set (IRow.set (IRow.set (IRow.set (IRow.set (IRow.set (IRow.set (IRow.set (hr) _ _) _ _) _ _) _ _) _ _) _ _) _ _) _ _
  · repeat (first | (with_reducible exact grown_refl _ _) | (with_reducible refine grown_drew ?_) | (with_reducible refine grown_set ?_ _ _))
end Go.Proofs.Ytddiamocnkffjaa
