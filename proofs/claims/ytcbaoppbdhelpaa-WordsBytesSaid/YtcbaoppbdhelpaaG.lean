import Derived.Test.YtcbaoppbdhelpaaC
import Derived.Test.YtcbaoppbdhelpaaD
import Derived.Test.YtcbaoppbdhelpaaE0
namespace Go.Proofs.Ytcbaoppbdhelpaa
open Go.RowKit Go.Proofs Go.Proofs.MyK
set_option linter.unusedSimpArgs false
set_option linter.unusedVariables false

theorem wd0 : Wd 0 := by unfold Wd M; omega
theorem wd1 : Wd 1 := by unfold Wd M; omega
theorem sub01 (w : World) : Calls Try.prog 15 #[.agg #[.int .u64 0, .int .u64 0, .int .u64 0, .int .u64 0], .agg #[.int .u64 1, .int .u64 0, .int .u64 0, .int .u64 0]] w fun e w' =>
    e = .returned (.tuple #[.agg #[.int .u64 18446744073709551615, .int .u64 18446744073709551615, .int .u64 18446744073709551615, .int .u64 18446744073709551615], .int .u64 1]) ∧ Below w.heap.size w w' := by
  have h := sub_calls 0 0 0 0 1 0 0 0 wd0 wd0 wd0 wd0 wd1 wd0 wd0 wd0 w
  rw [show difB 0 1 0 = 1 by decide, show difB 0 0 1 = 1 by decide, show difS 0 1 0 = 18446744073709551615 by decide, show difS 0 0 1 = 18446744073709551615 by decide] at h
  exact h
def five32 : List Int := List.replicate 31 0 ++ [5]
theorem bytes5 (w : World) : Calls Try.prog 18 #[.agg #[.int .u64 5, .int .u64 0, .int .u64 0, .int .u64 0]] w fun e w' =>
    e = .returned (.agg #[.int .u8 0, .int .u8 0, .int .u8 0, .int .u8 0, .int .u8 0, .int .u8 0, .int .u8 0, .int .u8 0, .int .u8 0, .int .u8 0, .int .u8 0, .int .u8 0, .int .u8 0, .int .u8 0, .int .u8 0, .int .u8 0, .int .u8 0, .int .u8 0, .int .u8 0, .int .u8 0, .int .u8 0, .int .u8 0, .int .u8 0, .int .u8 0, .int .u8 0, .int .u8 0, .int .u8 0, .int .u8 0, .int .u8 0, .int .u8 0, .int .u8 0, .int .u8 5]) ∧ Below w.heap.size w w' := by
  have h := bytes_calls 5 0 0 0 (by omega) (by omega) (by omega) (by omega) w
  rw [show fillB 7 0 (fillB 15 0 (fillB 23 0 (fillB 31 5 zero32 8) 8) 8) 8 = five32 by decide] at h
  exact h
theorem big5 (b cap : Nat) (hcap : 32 ≤ cap) (hcap' : cap ≤ 9223372036854775807) (w : World) (h : IRow w b 37 .u8 five32) :
    Calls Try.prog 21 #[.slice (some ⟨b, 0, none⟩) 32 cap] w fun e w' => e = .returned (.tuple #[.agg #[.int .u64 5, .int .u64 0, .int .u64 0, .int .u64 0], .bool true]) ∧ Below w.heap.size w w' := by
  have h := big_calls b 0 cap (fun k => five32.getD k 0) hcap hcap' w h.lt (fun k hk => by rw [Nat.zero_add]; exact h.cell hk)
  exact h

theorem eq24 (x0 x1 x2 x3 y0 y1 y2 y3 : Int) (v : Bool) (hv : decide ([x0, x1, x2, x3] = [y0, y1, y2, y3]) = v) (w : World) :
    (Op.equalIn 10000 24 (.agg #[.int .u64 x0, .int .u64 x1, .int .u64 x2, .int .u64 x3]) (.agg #[.int .u64 y0, .int .u64 y1, .int .u64 y2, .int .u64 y3])).run Try.prog w = .ok v w := by
  obtain ⟨i, hi⟩ : ∃ i, Try.prog.info? 22 = some i := info_of_underlying Try.underlying22
  rw [← hv]
  exact run_eql_ints w Try.underlying24 Try.underlying22 hi (by kernel_rfl) .u64 [x0, x1, x2, x3] [y0, y1, y2, y3] rfl rfl

set_option maxHeartbeats 1000000 in
theorem sound_calls (w : World) : Calls Try.prog 8 #[] w fun e w' => e = .returned (.bool true) ∧ Below w.heap.size w w' := by
  have q1 := eq24 18446744073709551615 18446744073709551615 18446744073709551615 18446744073709551615 18446744073709551615 18446744073709551615 18446744073709551615 18446744073709551615 true (by simp)
  have q2 := eq24 5 0 0 0 5 0 0 0 true (by simp)
  go_enter Try.func8, Try.ntmps8
  go_wp2_with (first
    | (go_at_call 15; refine (sub01 _).mono ?_; rintro e w1 ⟨rfl, hb1⟩)
    | (go_at_call 18; refine (bytes5 _).mono ?_; rintro e w2 ⟨rfl, hb2⟩; have hv1 := VRow.belowS (VRow.new' (xs := [.int .u64 18446744073709551615, .int .u64 18446744073709551615, .int .u64 18446744073709551615, .int .u64 18446744073709551615]) rfl rfl) hb2)
    | (refine wpList_store_row rfl 37 _ _ rfl _ _ rfl rfl 37 _ (VRow.new' (xs := List.replicate 32 (.int .u8 0)) rfl rfl) (by kernel_rfl) (by kernel_rfl) (by kernel_rfl) ?_; simp only [Act.put])
    | (go_at_call 21; refine (big5 _ 32 (by decide) (by decide) _ (IRow.setRow (VRow.new' (xs := List.replicate 32 (.int .u8 0)) rfl rfl) five32)).mono ?_; rintro e w3 ⟨rfl, hb3⟩; have hv2 := VRow.belowS (VRow.setRowO (VRow.alloc hv1 _) (Nat.ne_of_lt hv1.lt) _) hb3)
    | (refine wpList_load_row rfl 24 _ rfl _ rfl 24 _ (0, 0) _ (VRow.alloc hv2 _) Try.underlying24 rfl (by kernel_rfl) ?_; simp only [Act.put, List.setIfInBounds_toArray, List.set_cons_zero, List.set_cons_succ]))
  go_ret
  exact ⟨rfl, bel_alloc (below_S (bel_setRow (bel_alloc (below_S (bel_alloc hb1 _) hb2) _) (below_S (bel_alloc hb1 _) hb2).size _) hb3) _⟩

end Go.Proofs.Ytcbaoppbdhelpaa
