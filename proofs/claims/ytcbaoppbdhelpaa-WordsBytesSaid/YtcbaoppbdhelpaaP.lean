import Derived.Test.YtcbaoppbdhelpaaB
import Derived.WalkSmall
import Derived.Laws.BitsLemmas
namespace Go.Proofs.Ytcbaoppbdhelpaa
open Go.RowKit Go.Proofs Go.Proofs.MyK
theorem wd_le {x : Int} (h : Wd x) : 0 ≤ x ∧ x ≤ 18446744073709551615 := by unfold Wd M at h; omega
theorem wd_lt {x : Int} (h : Wd x) : 0 ≤ x ∧ x < 18446744073709551616 := by unfold Wd M at h; omega
theorem and_ones (a : Int) (ha : Wd a) : bits BinOp.and IntKind.u64 a 18446744073709551615 = a := by
  have h1 := bits_and_u64_nat a.toNat 18446744073709551615 (by have := wd_lt ha; omega) (by omega)
  rw [Int.toNat_of_nonneg ha.1] at h1
  refine h1.trans ?_
  rw [show (18446744073709551615 : Nat) = 2 ^ 64 - 1 by decide, Nat.and_two_pow_sub_one_eq_mod, Nat.mod_eq_of_lt (by have := wd_lt ha; omega), Int.toNat_of_nonneg ha.1]
theorem and_none (a : Int) (ha : Wd a) : bits BinOp.and IntKind.u64 a 0 = 0 := by
  have h1 := bits_and_u64_nat a.toNat 0 (by have := wd_lt ha; omega) (by omega)
  rw [Int.toNat_of_nonneg ha.1, Nat.and_zero] at h1
  exact h1
theorem or_none (a : Int) (ha : Wd a) : bits BinOp.or IntKind.u64 a 0 = a := by
  have h2 := bits_or_u64_nat a.toNat 0 (by have := wd_lt ha; omega) (by omega)
  rw [Int.toNat_of_nonneg ha.1, Nat.or_zero, Int.toNat_of_nonneg ha.1] at h2
  exact h2
theorem none_or (a : Int) (ha : Wd a) : bits BinOp.or IntKind.u64 0 a = a := by
  have h2 := bits_or_u64_nat 0 a.toNat (by omega) (by have := wd_lt ha; omega)
  rw [Int.toNat_of_nonneg ha.1, Nat.zero_or, Int.toNat_of_nonneg ha.1] at h2
  exact h2
theorem andNot_ones (b : Int) (h : Wd b) : bits BinOp.andNot IntKind.u64 b 18446744073709551615 = 0 := by
  rw [u64_andNot b _ h.1 (wd_lt h).2 (by decide) (by decide)]
  rw [show (18446744073709551615 - (18446744073709551615 : Int).toNat : Nat) = 0 by decide, Nat.and_zero]; rfl
theorem andNot_none (b : Int) (h : Wd b) : bits BinOp.andNot IntKind.u64 b 0 = b := by
  rw [u64_andNot b _ h.1 (wd_lt h).2 (by decide) (by decide)]
  rw [show (18446744073709551615 - (0 : Int).toNat : Nat) = 2 ^ 64 - 1 by decide, Nat.and_two_pow_sub_one_eq_mod, Nat.mod_eq_of_lt (by have := wd_lt h; omega), Int.toNat_of_nonneg h.1]
theorem pick_one (x a b : Int) (hx : Wd x) (ha : Wd a) (hb : Wd b) (h : x % 2 = 1) : pickW x a b = a := by
  unfold pickW
  rw [and_one_u64 x (wd_le hx).1 (wd_le hx).2, h, show IntKind.u64.wrap (-1) = 18446744073709551615 by decide, and_ones a ha, andNot_ones b hb, or_none a ha]
theorem pick_two (x a b : Int) (hx : Wd x) (ha : Wd a) (hb : Wd b) (h : x % 2 = 0) : pickW x a b = b := by
  unfold pickW
  rw [and_one_u64 x (wd_le hx).1 (wd_le hx).2, h, show IntKind.u64.wrap (-0) = 0 by decide, and_none a ha, andNot_none b hb, none_or b hb]

theorem bit_of_digit (x : Int) (hx : 0 ≤ x) (j r : Nat) (hr : r < 16) : x / 2 ^ (16 * j + r) % 2 = x / 65536 ^ j % 65536 / 2 ^ r % 2 := by
  obtain ⟨n, rfl⟩ := Int.eq_ofNat_of_zero_le hx
  have h : n / 2 ^ (16 * j + r) % 2 = n / 65536 ^ j % 65536 / 2 ^ r % 2 := by
    rw [Nat.pow_add, ← Nat.div_div_eq_div_mul, Nat.pow_mul, show (2 : Nat) ^ 16 = 65536 by decide]
    generalize n / 65536 ^ j = m
    have h1 : m % 65536 / 2 ^ r = m / 2 ^ r % 2 ^ (16 - r) := by
      have : (65536 : Nat) = 2 ^ r * 2 ^ (16 - r) := by rw [← Nat.pow_add, show r + (16 - r) = 16 by omega]
      rw [this, Nat.mod_mul_right_div_self]
    rw [h1, Nat.mod_mod_of_dvd]
    exact ⟨2 ^ (15 - r), by rw [← Nat.pow_succ']; congr 1; omega⟩
  have h2 : ((n / 2 ^ (16 * j + r) % 2 : Nat) : Int) = ((n / 65536 ^ j % 65536 / 2 ^ r % 2 : Nat) : Int) := by rw [h]
  simpa only [Int.natCast_emod, Int.natCast_ediv, Int.natCast_pow, Int.cast_ofNat_Int] using h2

/-- The sixteen digits. -/
def digs (a0 a1 a2 a3 : Int) : List Int := [dg0 a0, dg1 a0, dg2 a0, dg3 a0, dg0 a1, dg1 a1, dg2 a1, dg3 a1, dg0 a2, dg1 a2, dg2 a2, dg3 a2, dg0 a3, dg1 a3, dg2 a3, dg3 a3]
def nsel (a0 a1 a2 a3 q : Int) : Int := if q = 0 then a0 else if q = 1 then a1 else if q = 2 then a2 else a3
theorem bit_same (a0 a1 a2 a3 i : Int) (h0 : Wd a0) (h1 : Wd a1) (h2 : Wd a2) (h3 : Wd a3) (hi : 0 ≤ i) (hi' : i < 256) :
    bits BinOp.and IntKind.u64 (nsel a0 a1 a2 a3 (i / 64) / 2 ^ (i % 64).toNat) 1 = (digs a0 a1 a2 a3).getD (i / 16).toNat 0 / 2 ^ (i % 16).toNat % 2 := by
  have key : ∀ x : Int, Wd x → ∀ n : Nat, bits BinOp.and IntKind.u64 (x / 2 ^ n) 1 = x / 2 ^ n % 2 := fun x hx n => by
    have hp : (0 : Int) < 2 ^ n := Int.pow_pos (by decide)
    have h5 : 0 ≤ x / 2 ^ n := Int.ediv_nonneg hx.1 (by omega)
    have h6 : x / 2 ^ n ≤ x := Int.ediv_le_self _ hx.1
    exact and_one_u64 _ h5 (by have := wd_le hx; omega)
  have cases16 : ∀ k : Nat, k < 16 → (i / 16).toNat = k → bits BinOp.and IntKind.u64 (nsel a0 a1 a2 a3 (i / 64) / 2 ^ (i % 64).toNat) 1 = (digs a0 a1 a2 a3).getD (i / 16).toNat 0 / 2 ^ (i % 16).toNat % 2 := by
    intro k hk hik
    have hr : (i % 16).toNat < 16 := by omega
    have e1 : (i % 64).toNat = 16 * (k % 4) + (i % 16).toNat := by omega
    have e2 : i / 64 = (k / 4 : Nat) := by omega
    rw [hik, e1, e2]
    generalize (i % 16).toNat = r at hr
    have hk' : k = 0 ∨ k = 1 ∨ k = 2 ∨ k = 3 ∨ k = 4 ∨ k = 5 ∨ k = 6 ∨ k = 7 ∨ k = 8 ∨ k = 9 ∨ k = 10 ∨ k = 11 ∨ k = 12 ∨ k = 13 ∨ k = 14 ∨ k = 15 := by omega
    rcases hk' with rfl | rfl | rfl | rfl | rfl | rfl | rfl | rfl | rfl | rfl | rfl | rfl | rfl | rfl | rfl | rfl <;>
      (rw [key _ (by first | exact h0 | exact h1 | exact h2 | exact h3), bit_of_digit _ (by first | exact h0.1 | exact h1.1 | exact h2.1 | exact h3.1) _ r hr]; first | rfl | (simp [digs, nsel, dg0, dg1, dg2, dg3]))
  exact cases16 _ (by omega) rfl
end Go.Proofs.Ytcbaoppbdhelpaa
