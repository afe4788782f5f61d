import Derived.Test.YtcbaoppbdhelpaaC
import Derived.Test.YtcbaoppbdhelpaaD
import Derived.Test.YtcbaoppbdhelpaaF
import Derived.Test.YtcbaoppbdhelpaaY
import Derived.Laws.BitsLemmas
namespace Go.Proofs.Ytcbaoppbdhelpaa
open Go.RowKit Go.Proofs Go.Proofs.MyK
set_option linter.unusedSimpArgs false
set_option linter.unusedVariables false
theorem wrap64u (n : Int) (h0 : 0 ≤ n) (h1 : n < 18446744073709551616) : IntKind.u64.wrap n = n := by rw [IntKind.wrap_u64]; omega
theorem join64 (x y p : Int) (i : Nat) (hp : (2 : Int) ^ i = p) (h0 : 0 ≤ x) (hx : x % p = 0) (h1 : x < 18446744073709551616) (hy : 0 ≤ y) (hyp : y < p) (h2 : y < 18446744073709551616) : bits .or .u64 x y = x + y := by
  refine bits_join .u64 64 (by decide) (fun n a b => wrap64u n a (by simpa using b)) i x y h0 (by rw [hp]; exact hx) (by simpa using h1) hy (by rw [hp]; exact hyp) (by simpa using h2)
theorem bgStep_eq (x z : Int) (h0 : 0 ≤ x) (h1 : x < 72057594037927936) (hz : 0 ≤ z ∧ z < 256) : bgStep x z = x * 256 + z := by
  unfold bgStep
  rw [wrap64u (x * 256) (by omega) (by omega), wrap64u z hz.1 (by omega)]
  exact join64 _ _ 256 8 (by decide) (by omega) (by omega) (by omega) hz.1 hz.2 (by omega)
theorem ltStep_eq (x z m : Int) (i : Nat) (hm : (2 : Int) ^ i = m) (hm1 : 1 ≤ m) (hm2 : m ≤ 72057594037927936) (h0 : 0 ≤ x) (h1 : x < m) (hz : 0 ≤ z ∧ z < 256) : ltStep x z m = x + z * m := by
  unfold ltStep
  have hb : z * m < 256 * 72057594037927936 := by
    have a1 : z * m ≤ 255 * m := Int.mul_le_mul_of_nonneg_right (by omega) (by omega)
    omega
  have hc : 0 ≤ z * m := Int.mul_nonneg hz.1 (by omega)
  rw [wrap64u z hz.1 (by omega), wrap64u (z * m) hc (by omega)]
  have e : bits .or .u64 x (z * m) = bits .or .u64 (z * m) x := by
    obtain ⟨a, rfl⟩ := Int.eq_ofNat_of_zero_le h0
    obtain ⟨b, hb'⟩ := Int.eq_ofNat_of_zero_le hc
    rw [hb']
    simp [bits, Nat.or_comm]
  rw [e, join64 _ _ m i hm hc (by simp [Int.mul_emod_left]) (by omega) h0 h1 (by omega)]
  omega
theorem big8_eq (z0 z1 z2 z3 z4 z5 z6 z7 : Int) (hz0 : 0 ≤ z0 ∧ z0 < 256) (hz1 : 0 ≤ z1 ∧ z1 < 256) (hz2 : 0 ≤ z2 ∧ z2 < 256) (hz3 : 0 ≤ z3 ∧ z3 < 256) (hz4 : 0 ≤ z4 ∧ z4 < 256) (hz5 : 0 ≤ z5 ∧ z5 < 256) (hz6 : 0 ≤ z6 ∧ z6 < 256) (hz7 : 0 ≤ z7 ∧ z7 < 256) : big8 z0 z1 z2 z3 z4 z5 z6 z7 = z7 + z6 * 256 + z5 * 65536 + z4 * 16777216 + z3 * 4294967296 + z2 * 1099511627776 + z1 * 281474976710656 + z0 * 72057594037927936 := by
  have e0 : bits BinOp.or IntKind.u64 0 (IntKind.u64.wrap z0) = z0 := by rw [wrap64u z0 hz0.1 (by omega)]; exact none_or _ ⟨hz0.1, by unfold M; omega⟩
  unfold big8
  rw [e0]
  rw [bgStep_eq (z0) z1 (by omega) (by omega) hz1]
  rw [bgStep_eq ((z0) * 256 + z1) z2 (by omega) (by omega) hz2]
  rw [bgStep_eq (((z0) * 256 + z1) * 256 + z2) z3 (by omega) (by omega) hz3]
  rw [bgStep_eq ((((z0) * 256 + z1) * 256 + z2) * 256 + z3) z4 (by omega) (by omega) hz4]
  rw [bgStep_eq (((((z0) * 256 + z1) * 256 + z2) * 256 + z3) * 256 + z4) z5 (by omega) (by omega) hz5]
  rw [bgStep_eq ((((((z0) * 256 + z1) * 256 + z2) * 256 + z3) * 256 + z4) * 256 + z5) z6 (by omega) (by omega) hz6]
  rw [bgStep_eq (((((((z0) * 256 + z1) * 256 + z2) * 256 + z3) * 256 + z4) * 256 + z5) * 256 + z6) z7 (by omega) (by omega) hz7]
  omega
theorem lit8_eq (z0 z1 z2 z3 z4 z5 z6 z7 : Int) (hz0 : 0 ≤ z0 ∧ z0 < 256) (hz1 : 0 ≤ z1 ∧ z1 < 256) (hz2 : 0 ≤ z2 ∧ z2 < 256) (hz3 : 0 ≤ z3 ∧ z3 < 256) (hz4 : 0 ≤ z4 ∧ z4 < 256) (hz5 : 0 ≤ z5 ∧ z5 < 256) (hz6 : 0 ≤ z6 ∧ z6 < 256) (hz7 : 0 ≤ z7 ∧ z7 < 256) : lit8 z0 z1 z2 z3 z4 z5 z6 z7 = z0 + z1 * 256 + z2 * 65536 + z3 * 16777216 + z4 * 4294967296 + z5 * 1099511627776 + z6 * 281474976710656 + z7 * 72057594037927936 := by
  have e0 : bits BinOp.or IntKind.u64 0 (IntKind.u64.wrap (IntKind.u64.wrap z0)) = z0 := by rw [wrap64u z0 hz0.1 (by omega), wrap64u z0 hz0.1 (by omega)]; exact none_or _ ⟨hz0.1, by unfold M; omega⟩
  unfold lit8
  rw [e0]
  rw [ltStep_eq (z0) z1 256 8 (by decide) (by omega) (by omega) (by omega) (by omega) hz1]
  rw [ltStep_eq (z0 + z1 * 256) z2 65536 16 (by decide) (by omega) (by omega) (by omega) (by omega) hz2]
  rw [ltStep_eq (z0 + z1 * 256 + z2 * 65536) z3 16777216 24 (by decide) (by omega) (by omega) (by omega) (by omega) hz3]
  rw [ltStep_eq (z0 + z1 * 256 + z2 * 65536 + z3 * 16777216) z4 4294967296 32 (by decide) (by omega) (by omega) (by omega) (by omega) hz4]
  rw [ltStep_eq (z0 + z1 * 256 + z2 * 65536 + z3 * 16777216 + z4 * 4294967296) z5 1099511627776 40 (by decide) (by omega) (by omega) (by omega) (by omega) hz5]
  rw [ltStep_eq (z0 + z1 * 256 + z2 * 65536 + z3 * 16777216 + z4 * 4294967296 + z5 * 1099511627776) z6 281474976710656 48 (by decide) (by omega) (by omega) (by omega) (by omega) hz6]
  rw [ltStep_eq (z0 + z1 * 256 + z2 * 65536 + z3 * 16777216 + z4 * 4294967296 + z5 * 1099511627776 + z6 * 281474976710656) z7 72057594037927936 56 (by decide) (by omega) (by omega) (by omega) (by omega) hz7]


/-- Byte j of a word. -/
def byt (j : Nat) (a : Int) : Int := a / 2 ^ (8 * j) % 256
theorem byt_bd (j : Nat) (a : Int) : 0 ≤ byt j a ∧ byt j a < 256 := by unfold byt; omega
theorem byt_sum (a : Int) (ha : Wd a) : byt 0 a + byt 1 a * 256 + byt 2 a * 65536 + byt 3 a * 16777216 + byt 4 a * 4294967296 + byt 5 a * 1099511627776 + byt 6 a * 281474976710656 + byt 7 a * 72057594037927936 = a := by
  unfold Wd M at ha
  simp only [byt, Nat.reduceMul, Int.reducePow]
  omega
/-- A number's bytes, the highest first; the lowest first. -/
def bl (a0 a1 a2 a3 : Int) : List Int := [byt 7 a3, byt 6 a3, byt 5 a3, byt 4 a3, byt 3 a3, byt 2 a3, byt 1 a3, byt 0 a3, byt 7 a2, byt 6 a2, byt 5 a2, byt 4 a2, byt 3 a2, byt 2 a2, byt 1 a2, byt 0 a2, byt 7 a1, byt 6 a1, byt 5 a1, byt 4 a1, byt 3 a1, byt 2 a1, byt 1 a1, byt 0 a1, byt 7 a0, byt 6 a0, byt 5 a0, byt 4 a0, byt 3 a0, byt 2 a0, byt 1 a0, byt 0 a0]
def tl (a0 a1 a2 a3 : Int) : List Int := [byt 0 a0, byt 1 a0, byt 2 a0, byt 3 a0, byt 4 a0, byt 5 a0, byt 6 a0, byt 7 a0, byt 0 a1, byt 1 a1, byt 2 a1, byt 3 a1, byt 4 a1, byt 5 a1, byt 6 a1, byt 7 a1, byt 0 a2, byt 1 a2, byt 2 a2, byt 3 a2, byt 4 a2, byt 5 a2, byt 6 a2, byt 7 a2, byt 0 a3, byt 1 a3, byt 2 a3, byt 3 a3, byt 4 a3, byt 5 a3, byt 6 a3, byt 7 a3]
set_option maxRecDepth 20000 in
theorem fillB_bl (a0 a1 a2 a3 : Int) : fillB 7 a3 (fillB 15 a2 (fillB 23 a1 (fillB 31 a0 (zero32) 8) 8) 8) 8 = bl a0 a1 a2 a3 := by
  kernel_rfl
set_option maxRecDepth 20000 in
theorem fillT_tl (a0 a1 a2 a3 : Int) : fillT 24 a3 (fillT 16 a2 (fillT 8 a1 (fillT 0 a0 (zero32) 8) 8) 8) 8 = tl a0 a1 a2 a3 := by
  kernel_rfl
theorem dg_hi0 (a : Int) : dg0 a / 256 = byt 1 a := by simp only [byt, dg0, Nat.reduceMul, Int.reducePow]; omega
theorem dg_lo0 (a : Int) : dg0 a % 256 = byt 0 a := by simp only [byt, dg0, Nat.reduceMul, Int.reducePow]; omega
theorem dg_hi1 (a : Int) : dg1 a / 256 = byt 3 a := by simp only [byt, dg1, Nat.reduceMul, Int.reducePow]; omega
theorem dg_lo1 (a : Int) : dg1 a % 256 = byt 2 a := by simp only [byt, dg1, Nat.reduceMul, Int.reducePow]; omega
theorem dg_hi2 (a : Int) : dg2 a / 256 = byt 5 a := by simp only [byt, dg2, Nat.reduceMul, Int.reducePow]; omega
theorem dg_lo2 (a : Int) : dg2 a % 256 = byt 4 a := by simp only [byt, dg2, Nat.reduceMul, Int.reducePow]; omega
theorem dg_hi3 (a : Int) : dg3 a / 256 = byt 7 a := by simp only [byt, dg3, Nat.reduceMul, Int.reducePow]; omega
theorem dg_lo3 (a : Int) : dg3 a % 256 = byt 6 a := by simp only [byt, dg3, Nat.reduceMul, Int.reducePow]; omega
set_option maxRecDepth 20000 in
theorem rb_list (a0 a1 a2 a3 : Int) : rb (digs a0 a1 a2 a3) 16 = [dg3 a3 / 256, dg3 a3 % 256, dg2 a3 / 256, dg2 a3 % 256, dg1 a3 / 256, dg1 a3 % 256, dg0 a3 / 256, dg0 a3 % 256, dg3 a2 / 256, dg3 a2 % 256, dg2 a2 / 256, dg2 a2 % 256, dg1 a2 / 256, dg1 a2 % 256, dg0 a2 / 256, dg0 a2 % 256, dg3 a1 / 256, dg3 a1 % 256, dg2 a1 / 256, dg2 a1 % 256, dg1 a1 / 256, dg1 a1 % 256, dg0 a1 / 256, dg0 a1 % 256, dg3 a0 / 256, dg3 a0 % 256, dg2 a0 / 256, dg2 a0 % 256, dg1 a0 / 256, dg1 a0 % 256, dg0 a0 / 256, dg0 a0 % 256] := rfl
theorem rb_bl (a0 a1 a2 a3 : Int) : rb (digs a0 a1 a2 a3) 16 = bl a0 a1 a2 a3 := by
  rw [rb_list]
  simp only [dg_hi0, dg_lo0, dg_hi1, dg_lo1, dg_hi2, dg_lo2, dg_hi3, dg_lo3, bl]
set_option maxRecDepth 20000 in
theorem rt_bl (a0 a1 a2 a3 : Int) : rt (fun k => (bl a0 a1 a2 a3).getD k 0) 32 = tl a0 a1 a2 a3 := by kernel_rfl
end Go.Proofs.Ytcbaoppbdhelpaa
