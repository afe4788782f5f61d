import Derived.Test.YtddiamocnkffjaaProg
import Derived.Test.YtddiamocnkffjaaR3
import Derived.Test.YtddiamocnkffjaaR2
import Derived.Laws.BitsAllLaws
import Derived.Laws.BitsLemmas
namespace Go.Proofs.Ytddiamocnkffjaa
open Go.RowKit Go.Proofs Go.Proofs.MyK
set_option linter.unusedSimpArgs false
set_option linter.unusedVariables false
theorem mixed : Try.prog.follows .mixedOrders = true := by kernel_rfl
/-- A word of 32 bits. -/
def W32 (x : Int) : Prop := 0 ≤ x ∧ x < 4294967296
def xr (a b : Int) : Int := ((a.toNat ^^^ b.toNat : Nat) : Int)
theorem xr_bd {a b : Int} (ha : W32 a) (hb : W32 b) : W32 (xr a b) := by
  unfold W32 xr at *
  have := Nat.xor_lt_two_pow (n := 32) (x := a.toNat) (y := b.toNat) (by omega) (by omega)
  omega
theorem xr32 {a b : Int} (ha : W32 a) (hb : W32 b) : bits .xor .u32 a b = xr a b := u32_xor a b ha.1 ha.2 hb.1 hb.2
theorem xr64 {a b : Int} (ha : W32 a) (hb : W32 b) : bits .xor .u64 a b = xr a b := u64_xor a b ha.1 (by have := ha.2; omega) hb.1 (by have := hb.2; omega)
def rot16 (x : Int) : Int := x * 65536 % 4294967296 + x / 65536
theorem rot16_bd {x : Int} (h : W32 x) : W32 (rot16 x) := by unfold W32 rot16 at *; omega
theorem rotl16_calls (x : Int) (hx : W32 x) (w : World) : Calls Try.prog 35 #[.int .u32 x, .int .i64 16] w fun e w' => e = .returned (.int .u32 (rot16 x)) ∧ Below w.heap.size w w' := by
  have h0 := hx.1
  have h1 := hx.2
  have hj : bits .or .u32 (x * 65536 % 4294967296) (x / 65536) = rot16 x := by
    refine bits_join .u32 32 (by decide) (fun n a b => by rw [IntKind.wrap_u32]; simp at b; omega) 16 _ _ ?_ ?_ ?_ ?_ ?_ ?_ <;> (try simp) <;> omega
  have hc : bits BinOp.and IntKind.u64 16 31 = 16 := by decide
  go_enter Try.func35, Try.ntmps35
  go_wp2_with fail
  go_ret

  exact ⟨by first | rfl | rw [hj], Below.refl _ _⟩
def rot12 (x : Int) : Int := x * 4096 % 4294967296 + x / 1048576
theorem rot12_bd {x : Int} (h : W32 x) : W32 (rot12 x) := by unfold W32 rot12 at *; omega
theorem rotl12_calls (x : Int) (hx : W32 x) (w : World) : Calls Try.prog 35 #[.int .u32 x, .int .i64 12] w fun e w' => e = .returned (.int .u32 (rot12 x)) ∧ Below w.heap.size w w' := by
  have h0 := hx.1
  have h1 := hx.2
  have hj : bits .or .u32 (x * 4096 % 4294967296) (x / 1048576) = rot12 x := by
    refine bits_join .u32 32 (by decide) (fun n a b => by rw [IntKind.wrap_u32]; simp at b; omega) 12 _ _ ?_ ?_ ?_ ?_ ?_ ?_ <;> (try simp) <;> omega
  have hc : bits BinOp.and IntKind.u64 12 31 = 12 := by decide
  go_enter Try.func35, Try.ntmps35
  go_wp2_with fail
  go_ret

  exact ⟨by first | rfl | rw [hj], Below.refl _ _⟩
def rot8 (x : Int) : Int := x * 256 % 4294967296 + x / 16777216
theorem rot8_bd {x : Int} (h : W32 x) : W32 (rot8 x) := by unfold W32 rot8 at *; omega
theorem rotl8_calls (x : Int) (hx : W32 x) (w : World) : Calls Try.prog 35 #[.int .u32 x, .int .i64 8] w fun e w' => e = .returned (.int .u32 (rot8 x)) ∧ Below w.heap.size w w' := by
  have h0 := hx.1
  have h1 := hx.2
  have hj : bits .or .u32 (x * 256 % 4294967296) (x / 16777216) = rot8 x := by
    refine bits_join .u32 32 (by decide) (fun n a b => by rw [IntKind.wrap_u32]; simp at b; omega) 8 _ _ ?_ ?_ ?_ ?_ ?_ ?_ <;> (try simp) <;> omega
  have hc : bits BinOp.and IntKind.u64 8 31 = 8 := by decide
  go_enter Try.func35, Try.ntmps35
  go_wp2_with fail
  go_ret

  exact ⟨by first | rfl | rw [hj], Below.refl _ _⟩
def rot7 (x : Int) : Int := x * 128 % 4294967296 + x / 33554432
theorem rot7_bd {x : Int} (h : W32 x) : W32 (rot7 x) := by unfold W32 rot7 at *; omega
theorem rotl7_calls (x : Int) (hx : W32 x) (w : World) : Calls Try.prog 35 #[.int .u32 x, .int .i64 7] w fun e w' => e = .returned (.int .u32 (rot7 x)) ∧ Below w.heap.size w w' := by
  have h0 := hx.1
  have h1 := hx.2
  have hj : bits .or .u32 (x * 128 % 4294967296) (x / 33554432) = rot7 x := by
    refine bits_join .u32 32 (by decide) (fun n a b => by rw [IntKind.wrap_u32]; simp at b; omega) 7 _ _ ?_ ?_ ?_ ?_ ?_ ?_ <;> (try simp) <;> omega
  have hc : bits BinOp.and IntKind.u64 7 31 = 7 := by decide
  go_enter Try.func35, Try.ntmps35
  go_wp2_with fail
  go_ret

  exact ⟨by first | rfl | rw [hj], Below.refl _ _⟩
end Go.Proofs.Ytddiamocnkffjaa
