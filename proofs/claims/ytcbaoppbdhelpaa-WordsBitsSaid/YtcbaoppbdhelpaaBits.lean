import Derived.Test.YtcbaoppbdhelpaaG
import Derived.Test.YtcbaoppbdhelpaaK2
import Derived.Test.YtcbaoppbdhelpaaP
import Derived.Deep.DeepCutAuto
import Derived.Lib.Hide
namespace Go.Proofs.Ytcbaoppbdhelpaa
open Go.RowKit Go.Proofs Go.Proofs.MyK
set_option linter.unusedVariables false
set_option linter.unusedSimpArgs false
set_option maxHeartbeats 400000 in
theorem bit_q0 (n0 n1 n2 n3 i : Int) (h0 : 0 ≤ i) (h1 : i ≤ 255) (hq : i / 64 = 0) (w : World) :
    Calls Try.prog 12 #[.agg #[.int .u64 n0, .int .u64 n1, .int .u64 n2, .int .u64 n3], .int .i64 i] w fun e w' =>
      e = .returned (.int .u64 (bits BinOp.and IntKind.u64 (n0 / 2 ^ (i % 64).toNat) 1)) ∧ Below w.heap.size w w' := by
  go_enter Try.func12, Try.ntmps12
  go_wp2_with fail
  go_ret
  exact ⟨rfl, bel_alloc (Below.refl _ _) _⟩
set_option maxHeartbeats 400000 in
theorem bit_q1 (n0 n1 n2 n3 i : Int) (h0 : 0 ≤ i) (h1 : i ≤ 255) (hq : i / 64 = 1) (w : World) :
    Calls Try.prog 12 #[.agg #[.int .u64 n0, .int .u64 n1, .int .u64 n2, .int .u64 n3], .int .i64 i] w fun e w' =>
      e = .returned (.int .u64 (bits BinOp.and IntKind.u64 (n1 / 2 ^ (i % 64).toNat) 1)) ∧ Below w.heap.size w w' := by
  go_enter Try.func12, Try.ntmps12
  go_wp2_with fail
  go_ret
  exact ⟨rfl, bel_alloc (Below.refl _ _) _⟩
set_option maxHeartbeats 400000 in
theorem bit_q2 (n0 n1 n2 n3 i : Int) (h0 : 0 ≤ i) (h1 : i ≤ 255) (hq : i / 64 = 2) (w : World) :
    Calls Try.prog 12 #[.agg #[.int .u64 n0, .int .u64 n1, .int .u64 n2, .int .u64 n3], .int .i64 i] w fun e w' =>
      e = .returned (.int .u64 (bits BinOp.and IntKind.u64 (n2 / 2 ^ (i % 64).toNat) 1)) ∧ Below w.heap.size w w' := by
  go_enter Try.func12, Try.ntmps12
  go_wp2_with fail
  go_ret
  exact ⟨rfl, bel_alloc (Below.refl _ _) _⟩
set_option maxHeartbeats 400000 in
theorem bit_q3 (n0 n1 n2 n3 i : Int) (h0 : 0 ≤ i) (h1 : i ≤ 255) (hq : i / 64 = 3) (w : World) :
    Calls Try.prog 12 #[.agg #[.int .u64 n0, .int .u64 n1, .int .u64 n2, .int .u64 n3], .int .i64 i] w fun e w' =>
      e = .returned (.int .u64 (bits BinOp.and IntKind.u64 (n3 / 2 ^ (i % 64).toNat) 1)) ∧ Below w.heap.size w w' := by
  go_enter Try.func12, Try.ntmps12
  go_wp2_with fail
  go_ret
  exact ⟨rfl, bel_alloc (Below.refl _ _) _⟩
set_option maxHeartbeats 400000 in
theorem bit_in (n0 n1 n2 n3 i : Int) (h0 : 0 ≤ i) (h1 : i ≤ 255) (w : World) :
    Calls Try.prog 12 #[.agg #[.int .u64 n0, .int .u64 n1, .int .u64 n2, .int .u64 n3], .int .i64 i] w fun e w' =>
      e = .returned (.int .u64 (bits BinOp.and IntKind.u64 (nsel n0 n1 n2 n3 (i / 64) / 2 ^ (i % 64).toNat) 1)) ∧ Below w.heap.size w w' := by
  have hq : i / 64 = 0 ∨ i / 64 = 1 ∨ i / 64 = 2 ∨ i / 64 = 3 := by omega
  rcases hq with hq | hq | hq | hq
  · have h := bit_q0 n0 n1 n2 n3 i h0 h1 hq w; rw [show nsel n0 n1 n2 n3 (i / 64) = n0 by simp [nsel, hq]]; exact h
  · have h := bit_q1 n0 n1 n2 n3 i h0 h1 hq w; rw [show nsel n0 n1 n2 n3 (i / 64) = n1 by simp [nsel, hq]]; exact h
  · have h := bit_q2 n0 n1 n2 n3 i h0 h1 hq w; rw [show nsel n0 n1 n2 n3 (i / 64) = n2 by simp [nsel, hq]]; exact h
  · have h := bit_q3 n0 n1 n2 n3 i h0 h1 hq w; rw [show nsel n0 n1 n2 n3 (i / 64) = n3 by simp [nsel, hq]]; exact h
set_option maxHeartbeats 400000 in
theorem bit_out (n0 n1 n2 n3 i : Int) (h : i < 0 ∨ 255 < i) (w : World) :
    Calls Try.prog 12 #[.agg #[.int .u64 n0, .int .u64 n1, .int .u64 n2, .int .u64 n3], .int .i64 i] w fun e w' =>
      e = .returned (.int .u64 0) ∧ Below w.heap.size w w' := by
  rcases h with h | h
  · go_enter Try.func12, Try.ntmps12
    go_wp2_with fail
    go_ret
    exact ⟨rfl, bel_alloc (Below.refl _ _) _⟩
  · have h' : ¬ i < 0 := by omega
    go_enter Try.func12, Try.ntmps12
    go_wp2_with fail
    go_ret
    exact ⟨rfl, bel_alloc (Below.refl _ _) _⟩
theorem digs_nonneg (a0 a1 a2 a3 : Int) (k : Nat) : 0 ≤ (digs a0 a1 a2 a3).getD k 0 := by
  have h : ∀ d ∈ digs a0 a1 a2 a3, 0 ≤ d := by
    intro d hd
    simp only [digs, List.mem_cons, List.not_mem_nil, or_false] at hd
    unfold dg0 dg1 dg2 dg3 at hd
    rcases hd with rfl | rfl | rfl | rfl | rfl | rfl | rfl | rfl | rfl | rfl | rfl | rfl | rfl | rfl | rfl | rfl <;> omega
  by_cases hk : k < (digs a0 a1 a2 a3).length
  · have e : (digs a0 a1 a2 a3).getD k 0 = (digs a0 a1 a2 a3)[k] := by simp [List.getD, hk]
    rw [e]; exact h _ (List.getElem_mem hk)
  · have e : (digs a0 a1 a2 a3).getD k 0 = 0 := by simp [List.getD, hk]
    rw [e]; omega
theorem bit_dv (n0 n1 n2 n3 i dv : Int) (h0 : 0 ≤ i) (h1 : i ≤ 255) (hs : bits BinOp.and IntKind.u64 (nsel n0 n1 n2 n3 (i / 64) / 2 ^ (i % 64).toNat) 1 = dv / 2 ^ (i % 16).toNat % 2) (w : World) :
    Calls Try.prog 12 #[.agg #[.int .u64 n0, .int .u64 n1, .int .u64 n2, .int .u64 n3], .int .i64 i] w fun e w' =>
      e = .returned (.int .u64 (dv / 2 ^ (i % 16).toNat % 2)) ∧ Below w.heap.size w w' := by
  have h := bit_in n0 n1 n2 n3 i h0 h1 w
  rw [hs] at h; exact h
def digsV (a0 a1 a2 a3 : Int) : List Value := (digs a0 a1 a2 a3).map (Value.int .i64)

theorem pick_v_bits_in1 (x a0 a1 a2 a3 b0 b1 b2 b3 : Int) (hx : Wd x) (ha0 : Wd a0) (ha1 : Wd a1) (ha2 : Wd a2) (ha3 : Wd a3) (hb0 : Wd b0) (hb1 : Wd b1) (hb2 : Wd b2) (hb3 : Wd b3) (hp : x % 2 = 1) (w : World) :
    Calls Try.prog 11 #[.int .u64 x, .agg #[.int .u64 a0, .int .u64 a1, .int .u64 a2, .int .u64 a3], .agg #[.int .u64 b0, .int .u64 b1, .int .u64 b2, .int .u64 b3]] w fun e w' => e = .returned (.agg #[.int .u64 a0, .int .u64 a1, .int .u64 a2, .int .u64 a3]) ∧ Below w.heap.size w w' := by
  have h := pick_calls x a0 a1 a2 a3 b0 b1 b2 b3 w
  rw [pick_one x a0 b0 hx ha0 hb0 hp, pick_one x a1 b1 hx ha1 hb1 hp, pick_one x a2 b2 hx ha2 hb2 hp, pick_one x a3 b3 hx ha3 hb3 hp] at h
  exact h
set_option maxHeartbeats 2000000 in
theorem bits_in1 (a0 a1 a2 a3 b0 b1 b2 b3 x i : Int) (ha0 : Wd a0) (ha1 : Wd a1) (ha2 : Wd a2) (ha3 : Wd a3) (hb0 : Wd b0) (hb1 : Wd b1) (hb2 : Wd b2) (hb3 : Wd b3) (hx : Wd x) (hp : x % 2 = 1) (hi0 : 0 ≤ i) (hi1 : i ≤ 255) (w : World) :
    Calls Try.prog 4 #[.agg #[.int .u64 a0, .int .u64 a1, .int .u64 a2, .int .u64 a3, .int .u64 b0, .int .u64 b1, .int .u64 b2, .int .u64 b3], .int .u64 x, .int .i64 i] w fun e w' => e = .returned (.bool true) ∧ Below w.heap.size w w' := by
  obtain ⟨dv, hdv⟩ : ∃ dv, (digs a0 a1 a2 a3).getD (i / 16).toNat 0 = dv := ⟨_, rfl⟩
  have hk : (digsV a0 a1 a2 a3)[(i / 16).toNat]? = some (.int .i64 dv) := by
    have : (i / 16).toNat < (digs a0 a1 a2 a3).length := by simp [digs]; omega
    rw [← hdv]; simp [digsV, List.getD, this]
  unfold digsV digs at hk
  simp only [List.map_cons, List.map_nil] at hk
  have hsame := bit_same a0 a1 a2 a3 i ha0 ha1 ha2 ha3 hi0 (by omega)
  rw [hdv] at hsame
  have hdv0 : 0 ≤ dv := by rw [← hdv]; exact digs_nonneg a0 a1 a2 a3 _
  have hdv1 : 0 ≤ dv / 2 ^ (i % 16).toNat := Int.ediv_nonneg hdv0 (Int.le_of_lt (Int.pow_pos (by decide)))
  clear hdv
  have q1 := eq24 a0 a1 a2 a3 a0 a1 a2 a3 true (by simp)
  have P1 := Lib.hid (fun w => pick_v_bits_in1 x a0 a1 a2 a3 b0 b1 b2 b3 hx ha0 ha1 ha2 ha3 hb0 hb1 hb2 hb3 hp w)
  have B1 := Lib.hid (fun w => bit_dv a0 a1 a2 a3 i dv hi0 hi1 hsame w)
  have D1 := Lib.hid (fun w => digits_calls a0 a1 a2 a3 ha0.1 ha1.1 ha2.1 ha3.1 w)
  have hx0 := hx.1
  have ho : (x % 2 == 1) = true := by simp [hp]
  have hz : (x % 2 == 0) = false := by simp [hp]
  clear ha0 ha1 ha2 ha3 hb0 hb1 hb2 hb3 hx hp hsame
  go_enter Try.func4, Try.ntmps4
  go_upto_region 1 with fail
  go_cut [7, 8] (fun v7 v8 wc => ∃ p q : Nat, v7 = .pointer (some ⟨p, 0, none⟩) ∧ v8 = .pointer (some ⟨q, 0, none⟩) ∧ VRow wc p 24 [.int .u64 a0, .int .u64 a1, .int .u64 a2, .int .u64 a3] ∧ VRow wc q 24 [.int .u64 b0, .int .u64 b1, .int .u64 b2, .int .u64 b3] ∧ Below w.heap.size w wc)
  case first =>
    go_region
    all_goals (go_wp2_with fail; go_meet; case rel => exact ⟨_, _, rfl, rfl, (by repeat (first | ((with_reducible refine VRow.new' ?_ ?_); (focus (simp; done)); rfl) | (with_reducible refine VRow.alloc ?_ _) | (with_reducible refine VRow.drew ?_))), (by repeat (first | ((with_reducible refine VRow.new' ?_ ?_); (focus (simp; done)); rfl) | (with_reducible refine VRow.alloc ?_ _) | (with_reducible refine VRow.drew ?_))), (by repeat (first | (with_reducible exact Below.refl _ _) | (with_reducible refine bel_drew ?_) | (with_reducible refine bel_alloc ?_ _)))⟩)
  case rest =>
    obtain ⟨p, q, rfl, rfl, hvp, hvq, hbel⟩ := hcut
    go_wp2_with (first
      | (refine wpList_load_vrow rfl rfl rfl hvp Try.underlying24 rfl (by kernel_rfl) ?_; simp only [Act.put, List.setIfInBounds_toArray, List.set_cons_zero, List.set_cons_succ])
      | (refine wpList_load_vrow rfl rfl rfl (VRow.alloc hvp _) Try.underlying24 rfl (by kernel_rfl) ?_; simp only [Act.put, List.setIfInBounds_toArray, List.set_cons_zero, List.set_cons_succ])
      | (refine wpList_load_vrow rfl rfl rfl hvq Try.underlying24 rfl (by kernel_rfl) ?_; simp only [Act.put, List.setIfInBounds_toArray, List.set_cons_zero, List.set_cons_succ])
      | (refine wpList_load_vrow rfl rfl rfl (VRow.alloc hvq _) Try.underlying24 rfl (by kernel_rfl) ?_; simp only [Act.put, List.setIfInBounds_toArray, List.set_cons_zero, List.set_cons_succ])
      | (refine wpList_load_vrow rfl rfl rfl hv11 Try.underlying24 rfl (by kernel_rfl) ?_; simp only [Act.put, List.setIfInBounds_toArray, List.set_cons_zero, List.set_cons_succ])
      | (refine wpList_load_vrow rfl rfl rfl (VRow.alloc hv11 _) Try.underlying24 rfl (by kernel_rfl) ?_; simp only [Act.put, List.setIfInBounds_toArray, List.set_cons_zero, List.set_cons_succ])
      | (go_at_call 8; refine (sound_calls _).mono ?_; rintro e w1 ⟨rfl, hb1⟩; replace hbel := below_S hbel hb1; replace hvp := VRow.belowS hvp hb1; replace hvq := VRow.belowS hvq hb1; clear hb1)
      | (go_at_call 10; (with_reducible refine (D1.out _).mono ?_); rintro e w1 ⟨rfl, hb1⟩; replace hbel := below_S hbel hb1; replace hvp := VRow.belowS hvp hb1; replace hvq := VRow.belowS hvq hb1; clear hb1)
      | (go_at_call 11; (with_reducible refine (P1.out _).mono ?_); rintro e w1 ⟨rfl, hb1⟩; replace hbel := below_S ((fun h => bel_alloc h _) hbel) hb1; replace hvp := VRow.belowS ((fun h => VRow.alloc h _) hvp) hb1; replace hvq := VRow.belowS ((fun h => VRow.alloc h _) hvq) hb1; clear hb1)
      | (go_at_call 12; (with_reducible refine (B1.out _).mono ?_); rintro e w1 ⟨rfl, hb1⟩; replace hbel := below_S (bel_alloc hbel _) hb1; have hv11 := VRow.belowS (VRow.new' (xs := [.int .u64 a0, .int .u64 a1, .int .u64 a2, .int .u64 a3]) rfl rfl) hb1; replace hvp := VRow.belowS (VRow.alloc hvp _) hb1; replace hvq := VRow.belowS (VRow.alloc hvq _) hb1; clear hb1))
    go_ret
    exact ⟨rfl, hbel⟩

theorem pick_v_bits_in0 (x a0 a1 a2 a3 b0 b1 b2 b3 : Int) (hx : Wd x) (ha0 : Wd a0) (ha1 : Wd a1) (ha2 : Wd a2) (ha3 : Wd a3) (hb0 : Wd b0) (hb1 : Wd b1) (hb2 : Wd b2) (hb3 : Wd b3) (hp : x % 2 = 0) (w : World) :
    Calls Try.prog 11 #[.int .u64 x, .agg #[.int .u64 a0, .int .u64 a1, .int .u64 a2, .int .u64 a3], .agg #[.int .u64 b0, .int .u64 b1, .int .u64 b2, .int .u64 b3]] w fun e w' => e = .returned (.agg #[.int .u64 b0, .int .u64 b1, .int .u64 b2, .int .u64 b3]) ∧ Below w.heap.size w w' := by
  have h := pick_calls x a0 a1 a2 a3 b0 b1 b2 b3 w
  rw [pick_two x a0 b0 hx ha0 hb0 hp, pick_two x a1 b1 hx ha1 hb1 hp, pick_two x a2 b2 hx ha2 hb2 hp, pick_two x a3 b3 hx ha3 hb3 hp] at h
  exact h
set_option maxHeartbeats 2000000 in
theorem bits_in0 (a0 a1 a2 a3 b0 b1 b2 b3 x i : Int) (ha0 : Wd a0) (ha1 : Wd a1) (ha2 : Wd a2) (ha3 : Wd a3) (hb0 : Wd b0) (hb1 : Wd b1) (hb2 : Wd b2) (hb3 : Wd b3) (hx : Wd x) (hp : x % 2 = 0) (hi0 : 0 ≤ i) (hi1 : i ≤ 255) (w : World) :
    Calls Try.prog 4 #[.agg #[.int .u64 a0, .int .u64 a1, .int .u64 a2, .int .u64 a3, .int .u64 b0, .int .u64 b1, .int .u64 b2, .int .u64 b3], .int .u64 x, .int .i64 i] w fun e w' => e = .returned (.bool true) ∧ Below w.heap.size w w' := by
  obtain ⟨dv, hdv⟩ : ∃ dv, (digs a0 a1 a2 a3).getD (i / 16).toNat 0 = dv := ⟨_, rfl⟩
  have hk : (digsV a0 a1 a2 a3)[(i / 16).toNat]? = some (.int .i64 dv) := by
    have : (i / 16).toNat < (digs a0 a1 a2 a3).length := by simp [digs]; omega
    rw [← hdv]; simp [digsV, List.getD, this]
  unfold digsV digs at hk
  simp only [List.map_cons, List.map_nil] at hk
  have hsame := bit_same a0 a1 a2 a3 i ha0 ha1 ha2 ha3 hi0 (by omega)
  rw [hdv] at hsame
  have hdv0 : 0 ≤ dv := by rw [← hdv]; exact digs_nonneg a0 a1 a2 a3 _
  have hdv1 : 0 ≤ dv / 2 ^ (i % 16).toNat := Int.ediv_nonneg hdv0 (Int.le_of_lt (Int.pow_pos (by decide)))
  clear hdv
  have q1 := eq24 b0 b1 b2 b3 b0 b1 b2 b3 true (by simp)
  have P1 := Lib.hid (fun w => pick_v_bits_in0 x a0 a1 a2 a3 b0 b1 b2 b3 hx ha0 ha1 ha2 ha3 hb0 hb1 hb2 hb3 hp w)
  have B1 := Lib.hid (fun w => bit_dv a0 a1 a2 a3 i dv hi0 hi1 hsame w)
  have D1 := Lib.hid (fun w => digits_calls a0 a1 a2 a3 ha0.1 ha1.1 ha2.1 ha3.1 w)
  have hx0 := hx.1
  have ho : (x % 2 == 1) = false := by simp [hp]
  have hz : (x % 2 == 0) = true := by simp [hp]
  clear ha0 ha1 ha2 ha3 hb0 hb1 hb2 hb3 hx hp hsame
  go_enter Try.func4, Try.ntmps4
  go_upto_region 1 with fail
  go_cut [7, 8] (fun v7 v8 wc => ∃ p q : Nat, v7 = .pointer (some ⟨p, 0, none⟩) ∧ v8 = .pointer (some ⟨q, 0, none⟩) ∧ VRow wc p 24 [.int .u64 a0, .int .u64 a1, .int .u64 a2, .int .u64 a3] ∧ VRow wc q 24 [.int .u64 b0, .int .u64 b1, .int .u64 b2, .int .u64 b3] ∧ Below w.heap.size w wc)
  case first =>
    go_region
    all_goals (go_wp2_with fail; go_meet; case rel => exact ⟨_, _, rfl, rfl, (by repeat (first | ((with_reducible refine VRow.new' ?_ ?_); (focus (simp; done)); rfl) | (with_reducible refine VRow.alloc ?_ _) | (with_reducible refine VRow.drew ?_))), (by repeat (first | ((with_reducible refine VRow.new' ?_ ?_); (focus (simp; done)); rfl) | (with_reducible refine VRow.alloc ?_ _) | (with_reducible refine VRow.drew ?_))), (by repeat (first | (with_reducible exact Below.refl _ _) | (with_reducible refine bel_drew ?_) | (with_reducible refine bel_alloc ?_ _)))⟩)
  case rest =>
    obtain ⟨p, q, rfl, rfl, hvp, hvq, hbel⟩ := hcut
    go_wp2_with (first
      | (refine wpList_load_vrow rfl rfl rfl hvp Try.underlying24 rfl (by kernel_rfl) ?_; simp only [Act.put, List.setIfInBounds_toArray, List.set_cons_zero, List.set_cons_succ])
      | (refine wpList_load_vrow rfl rfl rfl (VRow.alloc hvp _) Try.underlying24 rfl (by kernel_rfl) ?_; simp only [Act.put, List.setIfInBounds_toArray, List.set_cons_zero, List.set_cons_succ])
      | (refine wpList_load_vrow rfl rfl rfl hvq Try.underlying24 rfl (by kernel_rfl) ?_; simp only [Act.put, List.setIfInBounds_toArray, List.set_cons_zero, List.set_cons_succ])
      | (refine wpList_load_vrow rfl rfl rfl (VRow.alloc hvq _) Try.underlying24 rfl (by kernel_rfl) ?_; simp only [Act.put, List.setIfInBounds_toArray, List.set_cons_zero, List.set_cons_succ])
      | (refine wpList_load_vrow rfl rfl rfl hv11 Try.underlying24 rfl (by kernel_rfl) ?_; simp only [Act.put, List.setIfInBounds_toArray, List.set_cons_zero, List.set_cons_succ])
      | (refine wpList_load_vrow rfl rfl rfl (VRow.alloc hv11 _) Try.underlying24 rfl (by kernel_rfl) ?_; simp only [Act.put, List.setIfInBounds_toArray, List.set_cons_zero, List.set_cons_succ])
      | (go_at_call 8; refine (sound_calls _).mono ?_; rintro e w1 ⟨rfl, hb1⟩; replace hbel := below_S hbel hb1; replace hvp := VRow.belowS hvp hb1; replace hvq := VRow.belowS hvq hb1; clear hb1)
      | (go_at_call 10; (with_reducible refine (D1.out _).mono ?_); rintro e w1 ⟨rfl, hb1⟩; replace hbel := below_S hbel hb1; replace hvp := VRow.belowS hvp hb1; replace hvq := VRow.belowS hvq hb1; clear hb1)
      | (go_at_call 11; (with_reducible refine (P1.out _).mono ?_); rintro e w1 ⟨rfl, hb1⟩; replace hbel := below_S ((fun h => bel_alloc h _) hbel) hb1; replace hvp := VRow.belowS ((fun h => VRow.alloc h _) hvp) hb1; replace hvq := VRow.belowS ((fun h => VRow.alloc h _) hvq) hb1; clear hb1)
      | (go_at_call 12; (with_reducible refine (B1.out _).mono ?_); rintro e w1 ⟨rfl, hb1⟩; replace hbel := below_S (bel_alloc hbel _) hb1; have hv11 := VRow.belowS (VRow.new' (xs := [.int .u64 b0, .int .u64 b1, .int .u64 b2, .int .u64 b3]) rfl rfl) hb1; replace hvp := VRow.belowS (VRow.alloc hvp _) hb1; replace hvq := VRow.belowS (VRow.alloc hvq _) hb1; clear hb1))
    go_ret
    exact ⟨rfl, hbel⟩

theorem pick_v_bits_neg1 (x a0 a1 a2 a3 b0 b1 b2 b3 : Int) (hx : Wd x) (ha0 : Wd a0) (ha1 : Wd a1) (ha2 : Wd a2) (ha3 : Wd a3) (hb0 : Wd b0) (hb1 : Wd b1) (hb2 : Wd b2) (hb3 : Wd b3) (hp : x % 2 = 1) (w : World) :
    Calls Try.prog 11 #[.int .u64 x, .agg #[.int .u64 a0, .int .u64 a1, .int .u64 a2, .int .u64 a3], .agg #[.int .u64 b0, .int .u64 b1, .int .u64 b2, .int .u64 b3]] w fun e w' => e = .returned (.agg #[.int .u64 a0, .int .u64 a1, .int .u64 a2, .int .u64 a3]) ∧ Below w.heap.size w w' := by
  have h := pick_calls x a0 a1 a2 a3 b0 b1 b2 b3 w
  rw [pick_one x a0 b0 hx ha0 hb0 hp, pick_one x a1 b1 hx ha1 hb1 hp, pick_one x a2 b2 hx ha2 hb2 hp, pick_one x a3 b3 hx ha3 hb3 hp] at h
  exact h
set_option maxHeartbeats 2000000 in
theorem bits_neg1 (a0 a1 a2 a3 b0 b1 b2 b3 x i : Int) (ha0 : Wd a0) (ha1 : Wd a1) (ha2 : Wd a2) (ha3 : Wd a3) (hb0 : Wd b0) (hb1 : Wd b1) (hb2 : Wd b2) (hb3 : Wd b3) (hx : Wd x) (hp : x % 2 = 1) (hi : i < 0) (w : World) :
    Calls Try.prog 4 #[.agg #[.int .u64 a0, .int .u64 a1, .int .u64 a2, .int .u64 a3, .int .u64 b0, .int .u64 b1, .int .u64 b2, .int .u64 b3], .int .u64 x, .int .i64 i] w fun e w' => e = .returned (.bool true) ∧ Below w.heap.size w w' := by
  have q1 := eq24 a0 a1 a2 a3 a0 a1 a2 a3 true (by simp)
  have P1 := Lib.hid (fun w => pick_v_bits_neg1 x a0 a1 a2 a3 b0 b1 b2 b3 hx ha0 ha1 ha2 ha3 hb0 hb1 hb2 hb3 hp w)
  have B1 := Lib.hid (fun w => bit_out a0 a1 a2 a3 i (.inl hi) w)
  have D1 := Lib.hid (fun w => digits_calls a0 a1 a2 a3 ha0.1 ha1.1 ha2.1 ha3.1 w)
  have hx0 := hx.1
  have ho : (x % 2 == 1) = true := by simp [hp]
  have hz : (x % 2 == 0) = false := by simp [hp]
  clear ha0 ha1 ha2 ha3 hb0 hb1 hb2 hb3 hx hp
  go_enter Try.func4, Try.ntmps4
  go_upto_region 1 with fail
  go_cut [7, 8] (fun v7 v8 wc => ∃ p q : Nat, v7 = .pointer (some ⟨p, 0, none⟩) ∧ v8 = .pointer (some ⟨q, 0, none⟩) ∧ VRow wc p 24 [.int .u64 a0, .int .u64 a1, .int .u64 a2, .int .u64 a3] ∧ VRow wc q 24 [.int .u64 b0, .int .u64 b1, .int .u64 b2, .int .u64 b3] ∧ Below w.heap.size w wc)
  case first =>
    go_region
    all_goals (go_wp2_with fail; go_meet; case rel => exact ⟨_, _, rfl, rfl, (by repeat (first | ((with_reducible refine VRow.new' ?_ ?_); (focus (simp; done)); rfl) | (with_reducible refine VRow.alloc ?_ _) | (with_reducible refine VRow.drew ?_))), (by repeat (first | ((with_reducible refine VRow.new' ?_ ?_); (focus (simp; done)); rfl) | (with_reducible refine VRow.alloc ?_ _) | (with_reducible refine VRow.drew ?_))), (by repeat (first | (with_reducible exact Below.refl _ _) | (with_reducible refine bel_drew ?_) | (with_reducible refine bel_alloc ?_ _)))⟩)
  case rest =>
    obtain ⟨p, q, rfl, rfl, hvp, hvq, hbel⟩ := hcut
    go_wp2_with (first
      | (refine wpList_load_vrow rfl rfl rfl hvp Try.underlying24 rfl (by kernel_rfl) ?_; simp only [Act.put, List.setIfInBounds_toArray, List.set_cons_zero, List.set_cons_succ])
      | (refine wpList_load_vrow rfl rfl rfl (VRow.alloc hvp _) Try.underlying24 rfl (by kernel_rfl) ?_; simp only [Act.put, List.setIfInBounds_toArray, List.set_cons_zero, List.set_cons_succ])
      | (refine wpList_load_vrow rfl rfl rfl hvq Try.underlying24 rfl (by kernel_rfl) ?_; simp only [Act.put, List.setIfInBounds_toArray, List.set_cons_zero, List.set_cons_succ])
      | (refine wpList_load_vrow rfl rfl rfl (VRow.alloc hvq _) Try.underlying24 rfl (by kernel_rfl) ?_; simp only [Act.put, List.setIfInBounds_toArray, List.set_cons_zero, List.set_cons_succ])
      | (refine wpList_load_vrow rfl rfl rfl hv11 Try.underlying24 rfl (by kernel_rfl) ?_; simp only [Act.put, List.setIfInBounds_toArray, List.set_cons_zero, List.set_cons_succ])
      | (refine wpList_load_vrow rfl rfl rfl (VRow.alloc hv11 _) Try.underlying24 rfl (by kernel_rfl) ?_; simp only [Act.put, List.setIfInBounds_toArray, List.set_cons_zero, List.set_cons_succ])
      | (go_at_call 8; refine (sound_calls _).mono ?_; rintro e w1 ⟨rfl, hb1⟩; replace hbel := below_S hbel hb1; replace hvp := VRow.belowS hvp hb1; replace hvq := VRow.belowS hvq hb1; clear hb1)
      | (go_at_call 10; (with_reducible refine (D1.out _).mono ?_); rintro e w1 ⟨rfl, hb1⟩; replace hbel := below_S hbel hb1; replace hvp := VRow.belowS hvp hb1; replace hvq := VRow.belowS hvq hb1; clear hb1)
      | (go_at_call 11; (with_reducible refine (P1.out _).mono ?_); rintro e w1 ⟨rfl, hb1⟩; replace hbel := below_S ( hbel) hb1; replace hvp := VRow.belowS ( hvp) hb1; replace hvq := VRow.belowS ( hvq) hb1; clear hb1)
      | (go_at_call 12; (with_reducible refine (B1.out _).mono ?_); rintro e w1 ⟨rfl, hb1⟩; replace hbel := below_S (bel_alloc hbel _) hb1; have hv11 := VRow.belowS (VRow.new' (xs := [.int .u64 a0, .int .u64 a1, .int .u64 a2, .int .u64 a3]) rfl rfl) hb1; replace hvp := VRow.belowS (VRow.alloc hvp _) hb1; replace hvq := VRow.belowS (VRow.alloc hvq _) hb1; clear hb1))
    go_ret
    exact ⟨rfl, hbel⟩

theorem pick_v_bits_neg0 (x a0 a1 a2 a3 b0 b1 b2 b3 : Int) (hx : Wd x) (ha0 : Wd a0) (ha1 : Wd a1) (ha2 : Wd a2) (ha3 : Wd a3) (hb0 : Wd b0) (hb1 : Wd b1) (hb2 : Wd b2) (hb3 : Wd b3) (hp : x % 2 = 0) (w : World) :
    Calls Try.prog 11 #[.int .u64 x, .agg #[.int .u64 a0, .int .u64 a1, .int .u64 a2, .int .u64 a3], .agg #[.int .u64 b0, .int .u64 b1, .int .u64 b2, .int .u64 b3]] w fun e w' => e = .returned (.agg #[.int .u64 b0, .int .u64 b1, .int .u64 b2, .int .u64 b3]) ∧ Below w.heap.size w w' := by
  have h := pick_calls x a0 a1 a2 a3 b0 b1 b2 b3 w
  rw [pick_two x a0 b0 hx ha0 hb0 hp, pick_two x a1 b1 hx ha1 hb1 hp, pick_two x a2 b2 hx ha2 hb2 hp, pick_two x a3 b3 hx ha3 hb3 hp] at h
  exact h
set_option maxHeartbeats 2000000 in
theorem bits_neg0 (a0 a1 a2 a3 b0 b1 b2 b3 x i : Int) (ha0 : Wd a0) (ha1 : Wd a1) (ha2 : Wd a2) (ha3 : Wd a3) (hb0 : Wd b0) (hb1 : Wd b1) (hb2 : Wd b2) (hb3 : Wd b3) (hx : Wd x) (hp : x % 2 = 0) (hi : i < 0) (w : World) :
    Calls Try.prog 4 #[.agg #[.int .u64 a0, .int .u64 a1, .int .u64 a2, .int .u64 a3, .int .u64 b0, .int .u64 b1, .int .u64 b2, .int .u64 b3], .int .u64 x, .int .i64 i] w fun e w' => e = .returned (.bool true) ∧ Below w.heap.size w w' := by
  have q1 := eq24 b0 b1 b2 b3 b0 b1 b2 b3 true (by simp)
  have P1 := Lib.hid (fun w => pick_v_bits_neg0 x a0 a1 a2 a3 b0 b1 b2 b3 hx ha0 ha1 ha2 ha3 hb0 hb1 hb2 hb3 hp w)
  have B1 := Lib.hid (fun w => bit_out a0 a1 a2 a3 i (.inl hi) w)
  have D1 := Lib.hid (fun w => digits_calls a0 a1 a2 a3 ha0.1 ha1.1 ha2.1 ha3.1 w)
  have hx0 := hx.1
  have ho : (x % 2 == 1) = false := by simp [hp]
  have hz : (x % 2 == 0) = true := by simp [hp]
  clear ha0 ha1 ha2 ha3 hb0 hb1 hb2 hb3 hx hp
  go_enter Try.func4, Try.ntmps4
  go_upto_region 1 with fail
  go_cut [7, 8] (fun v7 v8 wc => ∃ p q : Nat, v7 = .pointer (some ⟨p, 0, none⟩) ∧ v8 = .pointer (some ⟨q, 0, none⟩) ∧ VRow wc p 24 [.int .u64 a0, .int .u64 a1, .int .u64 a2, .int .u64 a3] ∧ VRow wc q 24 [.int .u64 b0, .int .u64 b1, .int .u64 b2, .int .u64 b3] ∧ Below w.heap.size w wc)
  case first =>
    go_region
    all_goals (go_wp2_with fail; go_meet; case rel => exact ⟨_, _, rfl, rfl, (by repeat (first | ((with_reducible refine VRow.new' ?_ ?_); (focus (simp; done)); rfl) | (with_reducible refine VRow.alloc ?_ _) | (with_reducible refine VRow.drew ?_))), (by repeat (first | ((with_reducible refine VRow.new' ?_ ?_); (focus (simp; done)); rfl) | (with_reducible refine VRow.alloc ?_ _) | (with_reducible refine VRow.drew ?_))), (by repeat (first | (with_reducible exact Below.refl _ _) | (with_reducible refine bel_drew ?_) | (with_reducible refine bel_alloc ?_ _)))⟩)
  case rest =>
    obtain ⟨p, q, rfl, rfl, hvp, hvq, hbel⟩ := hcut
    go_wp2_with (first
      | (refine wpList_load_vrow rfl rfl rfl hvp Try.underlying24 rfl (by kernel_rfl) ?_; simp only [Act.put, List.setIfInBounds_toArray, List.set_cons_zero, List.set_cons_succ])
      | (refine wpList_load_vrow rfl rfl rfl (VRow.alloc hvp _) Try.underlying24 rfl (by kernel_rfl) ?_; simp only [Act.put, List.setIfInBounds_toArray, List.set_cons_zero, List.set_cons_succ])
      | (refine wpList_load_vrow rfl rfl rfl hvq Try.underlying24 rfl (by kernel_rfl) ?_; simp only [Act.put, List.setIfInBounds_toArray, List.set_cons_zero, List.set_cons_succ])
      | (refine wpList_load_vrow rfl rfl rfl (VRow.alloc hvq _) Try.underlying24 rfl (by kernel_rfl) ?_; simp only [Act.put, List.setIfInBounds_toArray, List.set_cons_zero, List.set_cons_succ])
      | (refine wpList_load_vrow rfl rfl rfl hv11 Try.underlying24 rfl (by kernel_rfl) ?_; simp only [Act.put, List.setIfInBounds_toArray, List.set_cons_zero, List.set_cons_succ])
      | (refine wpList_load_vrow rfl rfl rfl (VRow.alloc hv11 _) Try.underlying24 rfl (by kernel_rfl) ?_; simp only [Act.put, List.setIfInBounds_toArray, List.set_cons_zero, List.set_cons_succ])
      | (go_at_call 8; refine (sound_calls _).mono ?_; rintro e w1 ⟨rfl, hb1⟩; replace hbel := below_S hbel hb1; replace hvp := VRow.belowS hvp hb1; replace hvq := VRow.belowS hvq hb1; clear hb1)
      | (go_at_call 10; (with_reducible refine (D1.out _).mono ?_); rintro e w1 ⟨rfl, hb1⟩; replace hbel := below_S hbel hb1; replace hvp := VRow.belowS hvp hb1; replace hvq := VRow.belowS hvq hb1; clear hb1)
      | (go_at_call 11; (with_reducible refine (P1.out _).mono ?_); rintro e w1 ⟨rfl, hb1⟩; replace hbel := below_S ( hbel) hb1; replace hvp := VRow.belowS ( hvp) hb1; replace hvq := VRow.belowS ( hvq) hb1; clear hb1)
      | (go_at_call 12; (with_reducible refine (B1.out _).mono ?_); rintro e w1 ⟨rfl, hb1⟩; replace hbel := below_S (bel_alloc hbel _) hb1; have hv11 := VRow.belowS (VRow.new' (xs := [.int .u64 b0, .int .u64 b1, .int .u64 b2, .int .u64 b3]) rfl rfl) hb1; replace hvp := VRow.belowS (VRow.alloc hvp _) hb1; replace hvq := VRow.belowS (VRow.alloc hvq _) hb1; clear hb1))
    go_ret
    exact ⟨rfl, hbel⟩

theorem pick_v_bits_big1 (x a0 a1 a2 a3 b0 b1 b2 b3 : Int) (hx : Wd x) (ha0 : Wd a0) (ha1 : Wd a1) (ha2 : Wd a2) (ha3 : Wd a3) (hb0 : Wd b0) (hb1 : Wd b1) (hb2 : Wd b2) (hb3 : Wd b3) (hp : x % 2 = 1) (w : World) :
    Calls Try.prog 11 #[.int .u64 x, .agg #[.int .u64 a0, .int .u64 a1, .int .u64 a2, .int .u64 a3], .agg #[.int .u64 b0, .int .u64 b1, .int .u64 b2, .int .u64 b3]] w fun e w' => e = .returned (.agg #[.int .u64 a0, .int .u64 a1, .int .u64 a2, .int .u64 a3]) ∧ Below w.heap.size w w' := by
  have h := pick_calls x a0 a1 a2 a3 b0 b1 b2 b3 w
  rw [pick_one x a0 b0 hx ha0 hb0 hp, pick_one x a1 b1 hx ha1 hb1 hp, pick_one x a2 b2 hx ha2 hb2 hp, pick_one x a3 b3 hx ha3 hb3 hp] at h
  exact h
set_option maxHeartbeats 2000000 in
theorem bits_big1 (a0 a1 a2 a3 b0 b1 b2 b3 x i : Int) (ha0 : Wd a0) (ha1 : Wd a1) (ha2 : Wd a2) (ha3 : Wd a3) (hb0 : Wd b0) (hb1 : Wd b1) (hb2 : Wd b2) (hb3 : Wd b3) (hx : Wd x) (hp : x % 2 = 1) (hi0 : 0 ≤ i) (hi : 255 < i) (w : World) :
    Calls Try.prog 4 #[.agg #[.int .u64 a0, .int .u64 a1, .int .u64 a2, .int .u64 a3, .int .u64 b0, .int .u64 b1, .int .u64 b2, .int .u64 b3], .int .u64 x, .int .i64 i] w fun e w' => e = .returned (.bool true) ∧ Below w.heap.size w w' := by
  have q1 := eq24 a0 a1 a2 a3 a0 a1 a2 a3 true (by simp)
  have P1 := Lib.hid (fun w => pick_v_bits_big1 x a0 a1 a2 a3 b0 b1 b2 b3 hx ha0 ha1 ha2 ha3 hb0 hb1 hb2 hb3 hp w)
  have B1 := Lib.hid (fun w => bit_out a0 a1 a2 a3 i (.inr hi) w)
  have D1 := Lib.hid (fun w => digits_calls a0 a1 a2 a3 ha0.1 ha1.1 ha2.1 ha3.1 w)
  have hx0 := hx.1
  have ho : (x % 2 == 1) = true := by simp [hp]
  have hz : (x % 2 == 0) = false := by simp [hp]
  clear ha0 ha1 ha2 ha3 hb0 hb1 hb2 hb3 hx hp
  go_enter Try.func4, Try.ntmps4
  go_upto_region 1 with fail
  go_cut [7, 8] (fun v7 v8 wc => ∃ p q : Nat, v7 = .pointer (some ⟨p, 0, none⟩) ∧ v8 = .pointer (some ⟨q, 0, none⟩) ∧ VRow wc p 24 [.int .u64 a0, .int .u64 a1, .int .u64 a2, .int .u64 a3] ∧ VRow wc q 24 [.int .u64 b0, .int .u64 b1, .int .u64 b2, .int .u64 b3] ∧ Below w.heap.size w wc)
  case first =>
    go_region
    all_goals (go_wp2_with fail; go_meet; case rel => exact ⟨_, _, rfl, rfl, (by repeat (first | ((with_reducible refine VRow.new' ?_ ?_); (focus (simp; done)); rfl) | (with_reducible refine VRow.alloc ?_ _) | (with_reducible refine VRow.drew ?_))), (by repeat (first | ((with_reducible refine VRow.new' ?_ ?_); (focus (simp; done)); rfl) | (with_reducible refine VRow.alloc ?_ _) | (with_reducible refine VRow.drew ?_))), (by repeat (first | (with_reducible exact Below.refl _ _) | (with_reducible refine bel_drew ?_) | (with_reducible refine bel_alloc ?_ _)))⟩)
  case rest =>
    obtain ⟨p, q, rfl, rfl, hvp, hvq, hbel⟩ := hcut
    go_wp2_with (first
      | (refine wpList_load_vrow rfl rfl rfl hvp Try.underlying24 rfl (by kernel_rfl) ?_; simp only [Act.put, List.setIfInBounds_toArray, List.set_cons_zero, List.set_cons_succ])
      | (refine wpList_load_vrow rfl rfl rfl (VRow.alloc hvp _) Try.underlying24 rfl (by kernel_rfl) ?_; simp only [Act.put, List.setIfInBounds_toArray, List.set_cons_zero, List.set_cons_succ])
      | (refine wpList_load_vrow rfl rfl rfl hvq Try.underlying24 rfl (by kernel_rfl) ?_; simp only [Act.put, List.setIfInBounds_toArray, List.set_cons_zero, List.set_cons_succ])
      | (refine wpList_load_vrow rfl rfl rfl (VRow.alloc hvq _) Try.underlying24 rfl (by kernel_rfl) ?_; simp only [Act.put, List.setIfInBounds_toArray, List.set_cons_zero, List.set_cons_succ])
      | (refine wpList_load_vrow rfl rfl rfl hv11 Try.underlying24 rfl (by kernel_rfl) ?_; simp only [Act.put, List.setIfInBounds_toArray, List.set_cons_zero, List.set_cons_succ])
      | (refine wpList_load_vrow rfl rfl rfl (VRow.alloc hv11 _) Try.underlying24 rfl (by kernel_rfl) ?_; simp only [Act.put, List.setIfInBounds_toArray, List.set_cons_zero, List.set_cons_succ])
      | (go_at_call 8; refine (sound_calls _).mono ?_; rintro e w1 ⟨rfl, hb1⟩; replace hbel := below_S hbel hb1; replace hvp := VRow.belowS hvp hb1; replace hvq := VRow.belowS hvq hb1; clear hb1)
      | (go_at_call 10; (with_reducible refine (D1.out _).mono ?_); rintro e w1 ⟨rfl, hb1⟩; replace hbel := below_S hbel hb1; replace hvp := VRow.belowS hvp hb1; replace hvq := VRow.belowS hvq hb1; clear hb1)
      | (go_at_call 11; (with_reducible refine (P1.out _).mono ?_); rintro e w1 ⟨rfl, hb1⟩; replace hbel := below_S ( hbel) hb1; replace hvp := VRow.belowS ( hvp) hb1; replace hvq := VRow.belowS ( hvq) hb1; clear hb1)
      | (go_at_call 12; (with_reducible refine (B1.out _).mono ?_); rintro e w1 ⟨rfl, hb1⟩; replace hbel := below_S (bel_alloc hbel _) hb1; have hv11 := VRow.belowS (VRow.new' (xs := [.int .u64 a0, .int .u64 a1, .int .u64 a2, .int .u64 a3]) rfl rfl) hb1; replace hvp := VRow.belowS (VRow.alloc hvp _) hb1; replace hvq := VRow.belowS (VRow.alloc hvq _) hb1; clear hb1))
    go_ret
    exact ⟨rfl, hbel⟩

theorem pick_v_bits_big0 (x a0 a1 a2 a3 b0 b1 b2 b3 : Int) (hx : Wd x) (ha0 : Wd a0) (ha1 : Wd a1) (ha2 : Wd a2) (ha3 : Wd a3) (hb0 : Wd b0) (hb1 : Wd b1) (hb2 : Wd b2) (hb3 : Wd b3) (hp : x % 2 = 0) (w : World) :
    Calls Try.prog 11 #[.int .u64 x, .agg #[.int .u64 a0, .int .u64 a1, .int .u64 a2, .int .u64 a3], .agg #[.int .u64 b0, .int .u64 b1, .int .u64 b2, .int .u64 b3]] w fun e w' => e = .returned (.agg #[.int .u64 b0, .int .u64 b1, .int .u64 b2, .int .u64 b3]) ∧ Below w.heap.size w w' := by
  have h := pick_calls x a0 a1 a2 a3 b0 b1 b2 b3 w
  rw [pick_two x a0 b0 hx ha0 hb0 hp, pick_two x a1 b1 hx ha1 hb1 hp, pick_two x a2 b2 hx ha2 hb2 hp, pick_two x a3 b3 hx ha3 hb3 hp] at h
  exact h
set_option maxHeartbeats 2000000 in
theorem bits_big0 (a0 a1 a2 a3 b0 b1 b2 b3 x i : Int) (ha0 : Wd a0) (ha1 : Wd a1) (ha2 : Wd a2) (ha3 : Wd a3) (hb0 : Wd b0) (hb1 : Wd b1) (hb2 : Wd b2) (hb3 : Wd b3) (hx : Wd x) (hp : x % 2 = 0) (hi0 : 0 ≤ i) (hi : 255 < i) (w : World) :
    Calls Try.prog 4 #[.agg #[.int .u64 a0, .int .u64 a1, .int .u64 a2, .int .u64 a3, .int .u64 b0, .int .u64 b1, .int .u64 b2, .int .u64 b3], .int .u64 x, .int .i64 i] w fun e w' => e = .returned (.bool true) ∧ Below w.heap.size w w' := by
  have q1 := eq24 b0 b1 b2 b3 b0 b1 b2 b3 true (by simp)
  have P1 := Lib.hid (fun w => pick_v_bits_big0 x a0 a1 a2 a3 b0 b1 b2 b3 hx ha0 ha1 ha2 ha3 hb0 hb1 hb2 hb3 hp w)
  have B1 := Lib.hid (fun w => bit_out a0 a1 a2 a3 i (.inr hi) w)
  have D1 := Lib.hid (fun w => digits_calls a0 a1 a2 a3 ha0.1 ha1.1 ha2.1 ha3.1 w)
  have hx0 := hx.1
  have ho : (x % 2 == 1) = false := by simp [hp]
  have hz : (x % 2 == 0) = true := by simp [hp]
  clear ha0 ha1 ha2 ha3 hb0 hb1 hb2 hb3 hx hp
  go_enter Try.func4, Try.ntmps4
  go_upto_region 1 with fail
  go_cut [7, 8] (fun v7 v8 wc => ∃ p q : Nat, v7 = .pointer (some ⟨p, 0, none⟩) ∧ v8 = .pointer (some ⟨q, 0, none⟩) ∧ VRow wc p 24 [.int .u64 a0, .int .u64 a1, .int .u64 a2, .int .u64 a3] ∧ VRow wc q 24 [.int .u64 b0, .int .u64 b1, .int .u64 b2, .int .u64 b3] ∧ Below w.heap.size w wc)
  case first =>
    go_region
    all_goals (go_wp2_with fail; go_meet; case rel => exact ⟨_, _, rfl, rfl, (by repeat (first | ((with_reducible refine VRow.new' ?_ ?_); (focus (simp; done)); rfl) | (with_reducible refine VRow.alloc ?_ _) | (with_reducible refine VRow.drew ?_))), (by repeat (first | ((with_reducible refine VRow.new' ?_ ?_); (focus (simp; done)); rfl) | (with_reducible refine VRow.alloc ?_ _) | (with_reducible refine VRow.drew ?_))), (by repeat (first | (with_reducible exact Below.refl _ _) | (with_reducible refine bel_drew ?_) | (with_reducible refine bel_alloc ?_ _)))⟩)
  case rest =>
    obtain ⟨p, q, rfl, rfl, hvp, hvq, hbel⟩ := hcut
    go_wp2_with (first
      | (refine wpList_load_vrow rfl rfl rfl hvp Try.underlying24 rfl (by kernel_rfl) ?_; simp only [Act.put, List.setIfInBounds_toArray, List.set_cons_zero, List.set_cons_succ])
      | (refine wpList_load_vrow rfl rfl rfl (VRow.alloc hvp _) Try.underlying24 rfl (by kernel_rfl) ?_; simp only [Act.put, List.setIfInBounds_toArray, List.set_cons_zero, List.set_cons_succ])
      | (refine wpList_load_vrow rfl rfl rfl hvq Try.underlying24 rfl (by kernel_rfl) ?_; simp only [Act.put, List.setIfInBounds_toArray, List.set_cons_zero, List.set_cons_succ])
      | (refine wpList_load_vrow rfl rfl rfl (VRow.alloc hvq _) Try.underlying24 rfl (by kernel_rfl) ?_; simp only [Act.put, List.setIfInBounds_toArray, List.set_cons_zero, List.set_cons_succ])
      | (refine wpList_load_vrow rfl rfl rfl hv11 Try.underlying24 rfl (by kernel_rfl) ?_; simp only [Act.put, List.setIfInBounds_toArray, List.set_cons_zero, List.set_cons_succ])
      | (refine wpList_load_vrow rfl rfl rfl (VRow.alloc hv11 _) Try.underlying24 rfl (by kernel_rfl) ?_; simp only [Act.put, List.setIfInBounds_toArray, List.set_cons_zero, List.set_cons_succ])
      | (go_at_call 8; refine (sound_calls _).mono ?_; rintro e w1 ⟨rfl, hb1⟩; replace hbel := below_S hbel hb1; replace hvp := VRow.belowS hvp hb1; replace hvq := VRow.belowS hvq hb1; clear hb1)
      | (go_at_call 10; (with_reducible refine (D1.out _).mono ?_); rintro e w1 ⟨rfl, hb1⟩; replace hbel := below_S hbel hb1; replace hvp := VRow.belowS hvp hb1; replace hvq := VRow.belowS hvq hb1; clear hb1)
      | (go_at_call 11; (with_reducible refine (P1.out _).mono ?_); rintro e w1 ⟨rfl, hb1⟩; replace hbel := below_S ( hbel) hb1; replace hvp := VRow.belowS ( hvp) hb1; replace hvq := VRow.belowS ( hvq) hb1; clear hb1)
      | (go_at_call 12; (with_reducible refine (B1.out _).mono ?_); rintro e w1 ⟨rfl, hb1⟩; replace hbel := below_S (bel_alloc hbel _) hb1; have hv11 := VRow.belowS (VRow.new' (xs := [.int .u64 b0, .int .u64 b1, .int .u64 b2, .int .u64 b3]) rfl rfl) hb1; replace hvp := VRow.belowS (VRow.alloc hvp _) hb1; replace hvq := VRow.belowS (VRow.alloc hvq _) hb1; clear hb1))
    go_ret
    exact ⟨rfl, hbel⟩

theorem bits_any (a0 a1 a2 a3 b0 b1 b2 b3 x i : Int) (ha0 : Wd a0) (ha1 : Wd a1) (ha2 : Wd a2) (ha3 : Wd a3) (hb0 : Wd b0) (hb1 : Wd b1) (hb2 : Wd b2) (hb3 : Wd b3) (hx : Wd x) (w : World) :
    Calls Try.prog 4 #[.agg #[.int .u64 a0, .int .u64 a1, .int .u64 a2, .int .u64 a3, .int .u64 b0, .int .u64 b1, .int .u64 b2, .int .u64 b3], .int .u64 x, .int .i64 i] w fun e w' => e = .returned (.bool true) ∧ Below w.heap.size w w' := by
  have hp : x % 2 = 1 ∨ x % 2 = 0 := by omega
  by_cases hi : i < 0
  · rcases hp with hp | hp
    · exact bits_neg1 a0 a1 a2 a3 b0 b1 b2 b3 x i ha0 ha1 ha2 ha3 hb0 hb1 hb2 hb3 hx hp hi w
    · exact bits_neg0 a0 a1 a2 a3 b0 b1 b2 b3 x i ha0 ha1 ha2 ha3 hb0 hb1 hb2 hb3 hx hp hi w
  · by_cases hi2 : 255 < i
    · rcases hp with hp | hp
      · exact bits_big1 a0 a1 a2 a3 b0 b1 b2 b3 x i ha0 ha1 ha2 ha3 hb0 hb1 hb2 hb3 hx hp (by omega) hi2 w
      · exact bits_big0 a0 a1 a2 a3 b0 b1 b2 b3 x i ha0 ha1 ha2 ha3 hb0 hb1 hb2 hb3 hx hp (by omega) hi2 w
    · rcases hp with hp | hp
      · exact bits_in1 a0 a1 a2 a3 b0 b1 b2 b3 x i ha0 ha1 ha2 ha3 hb0 hb1 hb2 hb3 hx hp (by omega) (by omega) w
      · exact bits_in0 a0 a1 a2 a3 b0 b1 b2 b3 x i ha0 ha1 ha2 ha3 hb0 hb1 hb2 hb3 hx hp (by omega) (by omega) w

end Go.Proofs.Ytcbaoppbdhelpaa
