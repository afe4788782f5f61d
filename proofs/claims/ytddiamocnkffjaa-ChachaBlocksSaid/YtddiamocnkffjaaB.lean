import Derived.Test.YtddiamocnkffjaaA
namespace Go.Proofs.Ytddiamocnkffjaa
open Go.RowKit Go.Proofs Go.Proofs.MyK
set_option linter.unusedSimpArgs false
set_option linter.unusedVariables false
theorem wrap64u (n : Int) (h0 : 0 ≤ n) (h1 : n < 18446744073709551616) : IntKind.u64.wrap n = n := by rw [IntKind.wrap_u64]; omega
theorem join64 (x y p : Int) (i : Nat) (hp : (2 : Int) ^ i = p) (h0 : 0 ≤ x) (hx : x % p = 0) (h1 : x < 18446744073709551616) (hy : 0 ≤ y) (hyp : y < p) (h2 : y < 18446744073709551616) : bits .or .u64 x y = x + y := by
  refine bits_join .u64 64 (by decide) (fun n a b => wrap64u n a (by simpa using b)) i x y h0 (by rw [hp]; exact hx) (by simpa using h1) hy (by rw [hp]; exact hyp) (by simpa using h2)
theorem join64' (x y : Int) (h : x = 0) (hy : 0 ≤ y ∧ y < 256) : bits .or .u64 x y = y := by
  subst h
  rw [join64 0 y 256 8 (by decide) (by omega) (by omega) (by omega) hy.1 hy.2 (by omega)]; omega
def ltS (x z m : Int) : Int := bits BinOp.or .u64 x (IntKind.u64.wrap (IntKind.u64.wrap z * m))
theorem ltS_eq (x z m : Int) (i : Nat) (hm : (2 : Int) ^ i = m) (hm1 : 1 ≤ m) (hm2 : m ≤ 72057594037927936) (h0 : 0 ≤ x) (h1 : x < m) (hz : 0 ≤ z ∧ z < 256) : ltS x z m = x + z * m := by
  unfold ltS
  have hb : z * m < 256 * 72057594037927936 := by
    have a1 : z * m ≤ 255 * m := Int.mul_le_mul_of_nonneg_right (by omega) (by omega)
    omega
  have hc : 0 ≤ z * m := Int.mul_nonneg hz.1 (by omega)
  rw [wrap64u z hz.1 (by omega), wrap64u (z * m) hc (by omega)]
  have e : bits .or .u64 x (z * m) = bits .or .u64 (z * m) x := by
    obtain ⟨a, rfl⟩ := Int.eq_ofNat_of_zero_le h0
    obtain ⟨b, hb'⟩ := Int.eq_ofNat_of_zero_le hc
    rw [hb']
    simp [bits, Nat.or_comm]
  rw [e, join64 _ _ m i hm hc (by simp [Int.mul_emod_left]) (by omega) h0 h1 (by omega)]
  omega

/-- The number of 4 bytes, the lowest first. -/
def le4 (z : Nat → Int) : Int := z 0 + z 1 * 256 + z 2 * 65536 + z 3 * 16777216
theorem or4 (z : Nat → Int) (hz : ∀ k, 0 ≤ z k ∧ z k < 256) : (ltS (ltS (ltS (bits BinOp.or .u64 0 (IntKind.u64.wrap (IntKind.u64.wrap (z 0)))) (z 1) 256) (z 2) 65536) (z 3) 16777216) = le4 z := by
  have e0 : bits BinOp.or IntKind.u64 0 (IntKind.u64.wrap (IntKind.u64.wrap (z 0))) = z 0 := by
    have h0 := hz 0
    rw [wrap64u _ h0.1 (by omega), wrap64u _ h0.1 (by omega), join64' 0 (z 0) (by omega) (by omega)]
  rw [e0]
  have h0 := hz 0
  have h1 := hz 1
  have h2 := hz 2
  have h3 := hz 3
  rw [ltS_eq (z 0) (z 1) 256 8 (by decide) (by omega) (by omega) (by omega) (by omega) h1]
  rw [ltS_eq (z 0 + z 1 * 256) (z 2) 65536 16 (by decide) (by omega) (by omega) (by omega) (by omega) h2]
  rw [ltS_eq (z 0 + z 1 * 256 + z 2 * 65536) (z 3) 16777216 24 (by decide) (by omega) (by omega) (by omega) (by omega) h3]
  rfl
set_option maxHeartbeats 1000000 in
theorem word4_calls (b off cap : Nat) (z : Nat → Int) (hb : ∀ k, 0 ≤ z k ∧ z k < 256) (w : World) (hz : ∀ k, k < 4 → w.cell? ⟨b, off + k, none⟩ = some (.int .u8 (z k))) :
    Calls Try.prog 21 #[.slice (some ⟨b, off, none⟩) 4 cap] w fun e w' => e = .returned (.int .u64 (le4 z)) ∧ Below w.heap.size w w' := by
  rw [← or4 z hb]
  have z0 := hz 0 (by omega)
  have z1 := hz 1 (by omega)
  have z2 := hz 2 (by omega)
  have z3 := hz 3 (by omega)
  simp only [Nat.add_zero] at z0
  clear hz
  go_enter Try.func21, Try.ntmps21
  go_wp2_with fail
  refine wp_loop_rounds 5 ?_
  iterate 5
    rw [rounds_succ]
    go_wp2_with fail
  simp [bodyPost, results, Try.results21, go_sem, ltS]
  repeat (first | exact Below.refl _ _ | refine bel_drew ?_ | refine bel_alloc ?_ _)

/-- The number of 8 bytes, the lowest first. -/
def le8 (z : Nat → Int) : Int := z 0 + z 1 * 256 + z 2 * 65536 + z 3 * 16777216 + z 4 * 4294967296 + z 5 * 1099511627776 + z 6 * 281474976710656 + z 7 * 72057594037927936
theorem or8 (z : Nat → Int) (hz : ∀ k, 0 ≤ z k ∧ z k < 256) : (ltS (ltS (ltS (ltS (ltS (ltS (ltS (bits BinOp.or .u64 0 (IntKind.u64.wrap (IntKind.u64.wrap (z 0)))) (z 1) 256) (z 2) 65536) (z 3) 16777216) (z 4) 4294967296) (z 5) 1099511627776) (z 6) 281474976710656) (z 7) 72057594037927936) = le8 z := by
  have e0 : bits BinOp.or IntKind.u64 0 (IntKind.u64.wrap (IntKind.u64.wrap (z 0))) = z 0 := by
    have h0 := hz 0
    rw [wrap64u _ h0.1 (by omega), wrap64u _ h0.1 (by omega), join64' 0 (z 0) (by omega) (by omega)]
  rw [e0]
  have h0 := hz 0
  have h1 := hz 1
  have h2 := hz 2
  have h3 := hz 3
  have h4 := hz 4
  have h5 := hz 5
  have h6 := hz 6
  have h7 := hz 7
  rw [ltS_eq (z 0) (z 1) 256 8 (by decide) (by omega) (by omega) (by omega) (by omega) h1]
  rw [ltS_eq (z 0 + z 1 * 256) (z 2) 65536 16 (by decide) (by omega) (by omega) (by omega) (by omega) h2]
  rw [ltS_eq (z 0 + z 1 * 256 + z 2 * 65536) (z 3) 16777216 24 (by decide) (by omega) (by omega) (by omega) (by omega) h3]
  rw [ltS_eq (z 0 + z 1 * 256 + z 2 * 65536 + z 3 * 16777216) (z 4) 4294967296 32 (by decide) (by omega) (by omega) (by omega) (by omega) h4]
  rw [ltS_eq (z 0 + z 1 * 256 + z 2 * 65536 + z 3 * 16777216 + z 4 * 4294967296) (z 5) 1099511627776 40 (by decide) (by omega) (by omega) (by omega) (by omega) h5]
  rw [ltS_eq (z 0 + z 1 * 256 + z 2 * 65536 + z 3 * 16777216 + z 4 * 4294967296 + z 5 * 1099511627776) (z 6) 281474976710656 48 (by decide) (by omega) (by omega) (by omega) (by omega) h6]
  rw [ltS_eq (z 0 + z 1 * 256 + z 2 * 65536 + z 3 * 16777216 + z 4 * 4294967296 + z 5 * 1099511627776 + z 6 * 281474976710656) (z 7) 72057594037927936 56 (by decide) (by omega) (by omega) (by omega) (by omega) h7]
  rfl
set_option maxHeartbeats 1000000 in
theorem word8_calls (b off cap : Nat) (z : Nat → Int) (hb : ∀ k, 0 ≤ z k ∧ z k < 256) (w : World) (hz : ∀ k, k < 8 → w.cell? ⟨b, off + k, none⟩ = some (.int .u8 (z k))) :
    Calls Try.prog 21 #[.slice (some ⟨b, off, none⟩) 8 cap] w fun e w' => e = .returned (.int .u64 (le8 z)) ∧ Below w.heap.size w w' := by
  rw [← or8 z hb]
  have z0 := hz 0 (by omega)
  have z1 := hz 1 (by omega)
  have z2 := hz 2 (by omega)
  have z3 := hz 3 (by omega)
  have z4 := hz 4 (by omega)
  have z5 := hz 5 (by omega)
  have z6 := hz 6 (by omega)
  have z7 := hz 7 (by omega)
  simp only [Nat.add_zero] at z0
  clear hz
  go_enter Try.func21, Try.ntmps21
  go_wp2_with fail
  refine wp_loop_rounds 9 ?_
  iterate 9
    rw [rounds_succ]
    go_wp2_with fail
  simp [bodyPost, results, Try.results21, go_sem, ltS]
  repeat (first | exact Below.refl _ _ | refine bel_drew ?_ | refine bel_alloc ?_ _)

theorem rword_calls (b off n cap : Nat) (hn : 4 ≤ n) (z : Nat → Int) (hb : ∀ k, 0 ≤ z k ∧ z k < 256) (w : World) (hz : ∀ k, k < 4 → w.cell? ⟨b, off + k, none⟩ = some (.int .u8 (z k))) :
    Calls Try.prog 24 #[.slice (some ⟨b, off, none⟩) n cap] w fun e w' => e = .returned (.int .u64 (le4 z)) ∧ Below w.heap.size w w' := by
  have z0 := hz 0 (by omega)
  have z1 := hz 1 (by omega)
  have z2 := hz 2 (by omega)
  have z3 := hz 3 (by omega)
  simp only [Nat.add_zero] at z0
  have b0 := hb 0
  have b1 := hb 1
  have b2 := hb 2
  have b3 := hb 3
  have n0 : (0 : Int) < (n : Int) := by omega
  have n1 : (1 : Int) < (n : Int) := by omega
  have n2 : (2 : Int) < (n : Int) := by omega
  have n3 : (3 : Int) < (n : Int) := by omega
  have m0 : 0 < n := by omega
  have m1 : 1 < n := by omega
  have m2 : 2 < n := by omega
  have m3 : 3 < n := by omega
  clear hz hb
  go_enter Try.func24, Try.ntmps24
  go_wp2_with fail
  refine wp_region_sd mixed (by kernel_rfl) ?_
  repeat (refine wpStill_step (fun K hK => ?_); go_simp; (try go_bits); refine hK _ ?_; clear hK K)
  refine wpStill_nil ?_
  go_wp2_with fail
  go_ret
  exact ⟨rfl, bel_drew (Below.refl _ _)⟩
theorem left16_calls (x : Int) (hx : W32 x) (w : World) : Calls Try.prog 36 #[.int .u64 x, .int .i64 16] w fun e w' => e = .returned (.int .u64 (rot16 x)) ∧ Below w.heap.size w w' := by
  have h0 := hx.1
  have h1 := hx.2
  have hj : (x * 65536 + x / 65536) % 4294967296 = rot16 x := by unfold rot16; omega
  go_enter Try.func36, Try.ntmps36
  go_wp2_with fail
  refine wp_region_sd mixed (by kernel_rfl) ?_
  repeat (refine wpStill_step (fun K hK => ?_); go_simp; (try go_bits); refine hK _ ?_; clear hK K)
  refine wpStill_nil ?_
  go_wp2_with fail
  go_ret
  exact ⟨by first | rfl | rw [← hj], bel_drew (Below.refl _ _)⟩
theorem left12_calls (x : Int) (hx : W32 x) (w : World) : Calls Try.prog 36 #[.int .u64 x, .int .i64 12] w fun e w' => e = .returned (.int .u64 (rot12 x)) ∧ Below w.heap.size w w' := by
  have h0 := hx.1
  have h1 := hx.2
  have hj : (x * 4096 + x / 1048576) % 4294967296 = rot12 x := by unfold rot12; omega
  go_enter Try.func36, Try.ntmps36
  go_wp2_with fail
  refine wp_region_sd mixed (by kernel_rfl) ?_
  repeat (refine wpStill_step (fun K hK => ?_); go_simp; (try go_bits); refine hK _ ?_; clear hK K)
  refine wpStill_nil ?_
  go_wp2_with fail
  go_ret
  exact ⟨by first | rfl | rw [← hj], bel_drew (Below.refl _ _)⟩
theorem left8_calls (x : Int) (hx : W32 x) (w : World) : Calls Try.prog 36 #[.int .u64 x, .int .i64 8] w fun e w' => e = .returned (.int .u64 (rot8 x)) ∧ Below w.heap.size w w' := by
  have h0 := hx.1
  have h1 := hx.2
  have hj : (x * 256 + x / 16777216) % 4294967296 = rot8 x := by unfold rot8; omega
  go_enter Try.func36, Try.ntmps36
  go_wp2_with fail
  refine wp_region_sd mixed (by kernel_rfl) ?_
  repeat (refine wpStill_step (fun K hK => ?_); go_simp; (try go_bits); refine hK _ ?_; clear hK K)
  refine wpStill_nil ?_
  go_wp2_with fail
  go_ret
  exact ⟨by first | rfl | rw [← hj], bel_drew (Below.refl _ _)⟩
theorem left7_calls (x : Int) (hx : W32 x) (w : World) : Calls Try.prog 36 #[.int .u64 x, .int .i64 7] w fun e w' => e = .returned (.int .u64 (rot7 x)) ∧ Below w.heap.size w w' := by
  have h0 := hx.1
  have h1 := hx.2
  have hj : (x * 128 + x / 33554432) % 4294967296 = rot7 x := by unfold rot7; omega
  go_enter Try.func36, Try.ntmps36
  go_wp2_with fail
  refine wp_region_sd mixed (by kernel_rfl) ?_
  repeat (refine wpStill_step (fun K hK => ?_); go_simp; (try go_bits); refine hK _ ?_; clear hK K)
  refine wpStill_nil ?_
  go_wp2_with fail
  go_ret
  exact ⟨by first | rfl | rw [← hj], bel_drew (Below.refl _ _)⟩
end Go.Proofs.Ytddiamocnkffjaa
