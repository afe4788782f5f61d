import Derived.Test.YtcbaoppbdhelpaaG
import Derived.Test.YtcbaoppbdhelpaaK2
import Derived.Lib.Hide
namespace Go.Proofs.Ytcbaoppbdhelpaa
open Go.RowKit Go.Proofs Go.Proofs.MyK
set_option linter.unusedSimpArgs false
set_option linter.unusedVariables false

/-- The number of four words. -/
def N (a0 a1 a2 a3 : Int) : Int := a0 + a1 * M + a2 * (M * M) + a3 * (M * M * M)
theorem less_iff (a0 a1 a2 a3 b0 b1 b2 b3 : Int) (ha0 : Wd a0) (ha1 : Wd a1) (ha2 : Wd a2) (ha3 : Wd a3) (hb0 : Wd b0) (hb1 : Wd b1) (hb2 : Wd b2) (hb3 : Wd b3) :
    lessB a0 a1 a2 a3 b0 b1 b2 b3 = if N a0 a1 a2 a3 < N b0 b1 b2 b3 then 1 else 0 := by
  unfold lessB difB N Wd M at *
  split <;> split <;> split <;> split <;> split <;> omega
theorem N_inj (a0 a1 a2 a3 b0 b1 b2 b3 : Int) (ha0 : Wd a0) (ha1 : Wd a1) (ha2 : Wd a2) (ha3 : Wd a3) (hb0 : Wd b0) (hb1 : Wd b1) (hb2 : Wd b2) (hb3 : Wd b3) :
    decide ([a0, a1, a2, a3] = [b0, b1, b2, b3]) = decide (N a0 a1 a2 a3 = N b0 b1 b2 b3) := by
  have e : ([a0, a1, a2, a3] = [b0, b1, b2, b3]) ↔ (N a0 a1 a2 a3 = N b0 b1 b2 b3) := by
    simp only [List.cons.injEq, and_true]
    unfold N Wd M at *
    omega
  simp only [e]
theorem less_v (a0 a1 a2 a3 b0 b1 b2 b3 : Int) (v : Bool) (ha0 : Wd a0) (ha1 : Wd a1) (ha2 : Wd a2) (ha3 : Wd a3) (hb0 : Wd b0) (hb1 : Wd b1) (hb2 : Wd b2) (hb3 : Wd b3) (hv : decide (N a0 a1 a2 a3 < N b0 b1 b2 b3) = v) (w : World) :
    Calls Try.prog 9 #[.agg #[.int .u64 a0, .int .u64 a1, .int .u64 a2, .int .u64 a3], .agg #[.int .u64 b0, .int .u64 b1, .int .u64 b2, .int .u64 b3]] w fun e w' => e = .returned (.bool v) ∧ Below w.heap.size w w' := by
  have h := less_calls a0 a1 a2 a3 b0 b1 b2 b3 ha0 ha1 ha2 ha3 hb0 hb1 hb2 hb3 w
  rw [less_iff _ _ _ _ _ _ _ _ ha0 ha1 ha2 ha3 hb0 hb1 hb2 hb3] at h
  have e : ((if N a0 a1 a2 a3 < N b0 b1 b2 b3 then (1 : Int) else 0) == 1) = v := by
    rw [← hv]; split <;> simp [*]
  rw [e] at h; exact h

set_option maxHeartbeats 1000000 in
theorem order_e (a0 a1 a2 a3 b0 b1 b2 b3 c0 c1 c2 c3 : Int) (ha0 : Wd a0) (ha1 : Wd a1) (ha2 : Wd a2) (ha3 : Wd a3) (hb0 : Wd b0) (hb1 : Wd b1) (hb2 : Wd b2) (hb3 : Wd b3) (hc0 : Wd c0) (hc1 : Wd c1) (hc2 : Wd c2) (hc3 : Wd c3) (he : decide ([a0, a1, a2, a3] = [b0, b1, b2, b3]) = true) (h1 : decide (N a0 a1 a2 a3 < N b0 b1 b2 b3) = false) (h2 : decide (N b0 b1 b2 b3 < N a0 a1 a2 a3) = false) (w : World) :
    Calls Try.prog 3 #[.agg #[.int .u64 a0, .int .u64 a1, .int .u64 a2, .int .u64 a3], .agg #[.int .u64 b0, .int .u64 b1, .int .u64 b2, .int .u64 b3], .agg #[.int .u64 c0, .int .u64 c1, .int .u64 c2, .int .u64 c3]] w fun e w' => e = .returned (.bool true) ∧ Below w.heap.size w w' := by
  have q := eq24 a0 a1 a2 a3 b0 b1 b2 b3 true he
  have L1 := Lib.hid (fun w => less_v a0 a1 a2 a3 b0 b1 b2 b3 false ha0 ha1 ha2 ha3 hb0 hb1 hb2 hb3 h1 w)
  have L2 := Lib.hid (fun w => less_v b0 b1 b2 b3 a0 a1 a2 a3 false hb0 hb1 hb2 hb3 ha0 ha1 ha2 ha3 h2 w)
  clear he h1 h2 ha0 ha1 ha2 ha3 hb0 hb1 hb2 hb3 hc0 hc1 hc2 hc3
  go_enter Try.func3, Try.ntmps3
  go_wp2_with (go_at_call 8; refine (sound_calls _).mono ?_; rintro e w1 ⟨rfl, hb0⟩)
  have hv3 := VRow.belowS (b := w.heap.size) (T := 24) (xs := [.int .u64 a0, .int .u64 a1, .int .u64 a2, .int .u64 a3]) (by repeat (first | ((with_reducible refine VRow.new' ?_ ?_); (focus (simp; done)); rfl) | (with_reducible refine VRow.alloc ?_ _) | (with_reducible refine VRow.drew ?_))) hb0
  have hv4 := VRow.belowS (b := w.heap.size + 1) (T := 24) (xs := [.int .u64 b0, .int .u64 b1, .int .u64 b2, .int .u64 b3]) (by repeat (first | ((with_reducible refine VRow.new' ?_ ?_); (focus (simp; done)); rfl) | (with_reducible refine VRow.alloc ?_ _) | (with_reducible refine VRow.drew ?_))) hb0
  have hv5 := VRow.belowS (b := w.heap.size + 1 + 1) (T := 24) (xs := [.int .u64 c0, .int .u64 c1, .int .u64 c2, .int .u64 c3]) (by repeat (first | ((with_reducible refine VRow.new' ?_ ?_); (focus (simp; done)); rfl) | (with_reducible refine VRow.alloc ?_ _) | (with_reducible refine VRow.drew ?_))) hb0
  refine wp_region_plan 5 21 [(.e, 0), (.e, 1), (.p, 2), (.h, 3), (.h, 4), (.b, 5), (.p, 6), (.p, 7), (.e, 8), (.e, 9), (.b, 10), (.p, 11), (.p, 12), (.p, 13), (.p, 14), (.e, 15), (.e, 16), (.b, 17), (.p, 18), (.e, 19), (.e, 20), (.w, 21), (.p, 22), (.p, 23)] mixed (by kernel_rfl) (fun dst _ _ _ _ h => by cases dst <;> exact h) ?_
  intro Q' K' hQ' hK'
  refine with_refl ?_
  intro hB
  simp only [planOps_cons, planOps_nil, getD_zero, getD_succ]
  repeat (first
    | (refine seqC_e_row rfl rfl rfl hv3 Try.underlying24 rfl (by kernel_rfl) ?_; (try simp only [Act.put, List.setIfInBounds_toArray, List.set_cons_zero, List.set_cons_succ]))
    | (refine seqC_h_row rfl rfl rfl hv3 Try.underlying24 rfl (by kernel_rfl) ?_; (try simp only [Act.put, List.setIfInBounds_toArray, List.set_cons_zero, List.set_cons_succ]))
    | (refine seqC_e_row rfl rfl rfl hv4 Try.underlying24 rfl (by kernel_rfl) ?_; (try simp only [Act.put, List.setIfInBounds_toArray, List.set_cons_zero, List.set_cons_succ]))
    | (refine seqC_h_row rfl rfl rfl hv4 Try.underlying24 rfl (by kernel_rfl) ?_; (try simp only [Act.put, List.setIfInBounds_toArray, List.set_cons_zero, List.set_cons_succ]))
    | (refine seqC_e_row rfl rfl rfl hv5 Try.underlying24 rfl (by kernel_rfl) ?_; (try simp only [Act.put, List.setIfInBounds_toArray, List.set_cons_zero, List.set_cons_succ]))
    | (refine seqC_h_row rfl rfl rfl hv5 Try.underlying24 rfl (by kernel_rfl) ?_; (try simp only [Act.put, List.setIfInBounds_toArray, List.set_cons_zero, List.set_cons_succ]))
    | (refine seqC_b (fun K hK => ?_); go_simp; go_at_call 9; ((with_reducible refine (L1.out _).mono ?_); rintro e w1 ⟨rfl, hb1⟩; refine hK _ _ (below_S hB hb1) ?_; replace hB := below_S hB hb1; clear hb1 hK K))
    | (refine seqC_w (fun K hK => ?_); go_simp; go_at_call 9; ((with_reducible refine (L1.out _).mono ?_); rintro e w1 ⟨rfl, hb1⟩; refine hK _ _ ?_; replace hB := below_S hB hb1; clear hb1 hK K))
    | (refine seqC_b (fun K hK => ?_); go_simp; go_at_call 9; ((with_reducible refine (L2.out _).mono ?_); rintro e w1 ⟨rfl, hb1⟩; refine hK _ _ (below_S hB hb1) ?_; replace hB := below_S hB hb1; clear hb1 hK K))
    | (refine seqC_w (fun K hK => ?_); go_simp; go_at_call 9; ((with_reducible refine (L2.out _).mono ?_); rintro e w1 ⟨rfl, hb1⟩; refine hK _ _ ?_; replace hB := below_S hB hb1; clear hb1 hK K))
    | ((first | (with_reducible refine seqC_skip_h rfl ?_) | (with_reducible refine seqC_skip_p rfl ?_) | (with_reducible refine seqC_skip_e rfl ?_) | (with_reducible refine seqC_skip_w rfl ?_) | (with_reducible refine seqC_skip_b hB rfl ?_)); (try simp only [Act.put, List.setIfInBounds_toArray, List.set_cons_zero, List.set_cons_succ]))
    | (refine seqC_h (fun K hK => ?_); go_simp; (try go_bits); refine hK _ ?_; clear hK K)
    | (refine seqC_p (v := ?_) rfl (fun w' => ?_) ?_; rotate_left; go_simp; (try go_bits); (with_reducible rfl); (try simp only [Act.put, List.setIfInBounds_toArray, List.set_cons_zero, List.set_cons_succ]))
    | (refine seqC_e (v := ?_) rfl (fun w' hb' => ?_) ?_; rotate_left; (have hb1 := (bcell hb').1; clear hb'; go_simp; (try go_bits)); (with_reducible rfl); (try simp only [Act.put, List.setIfInBounds_toArray, List.set_cons_zero, List.set_cons_succ]))
    | (refine seqC_w (fun K hK => ?_); go_simp; (try go_bits); refine hK _ _ ?_; clear hK K))
  refine seqC_nil (hK' _ _ ?_)
  clear hK' K' hQ' Q'
  have hbel : Below w.heap.size w _ := below_S (bel_drew (below_S (by repeat (first | (with_reducible exact Below.refl _ _) | (with_reducible refine bel_drew ?_) | (with_reducible refine bel_alloc ?_ _))) hb0)) hB
  replace hv3 := VRow.belowS (VRow.drew hv3) hB
  replace hv4 := VRow.belowS (VRow.drew hv4) hB
  replace hv5 := VRow.belowS (VRow.drew hv5) hB
  clear hB
  go_wp2_with (first
    | (refine wpList_load_vrow rfl rfl rfl hv3 Try.underlying24 rfl (by kernel_rfl) ?_; simp only [Act.put, List.setIfInBounds_toArray, List.set_cons_zero, List.set_cons_succ])
    | (refine wpList_load_vrow rfl rfl rfl hv4 Try.underlying24 rfl (by kernel_rfl) ?_; simp only [Act.put, List.setIfInBounds_toArray, List.set_cons_zero, List.set_cons_succ])
    | (refine wpList_load_vrow rfl rfl rfl hv5 Try.underlying24 rfl (by kernel_rfl) ?_; simp only [Act.put, List.setIfInBounds_toArray, List.set_cons_zero, List.set_cons_succ])
    | (go_at_call 9; (with_reducible refine (L1.out _).mono ?_); rintro e w1 ⟨rfl, hb1⟩; replace hbel := below_S hbel hb1; replace hv3 := VRow.belowS hv3 hb1; replace hv4 := VRow.belowS hv4 hb1; replace hv5 := VRow.belowS hv5 hb1; clear hb1))
  go_ret
  exact ⟨rfl, hbel⟩

set_option maxHeartbeats 1000000 in
theorem order_g (a0 a1 a2 a3 b0 b1 b2 b3 c0 c1 c2 c3 : Int) (ha0 : Wd a0) (ha1 : Wd a1) (ha2 : Wd a2) (ha3 : Wd a3) (hb0 : Wd b0) (hb1 : Wd b1) (hb2 : Wd b2) (hb3 : Wd b3) (hc0 : Wd c0) (hc1 : Wd c1) (hc2 : Wd c2) (hc3 : Wd c3) (he : decide ([a0, a1, a2, a3] = [b0, b1, b2, b3]) = false) (h1 : decide (N a0 a1 a2 a3 < N b0 b1 b2 b3) = false) (h2 : decide (N b0 b1 b2 b3 < N a0 a1 a2 a3) = true) (w : World) :
    Calls Try.prog 3 #[.agg #[.int .u64 a0, .int .u64 a1, .int .u64 a2, .int .u64 a3], .agg #[.int .u64 b0, .int .u64 b1, .int .u64 b2, .int .u64 b3], .agg #[.int .u64 c0, .int .u64 c1, .int .u64 c2, .int .u64 c3]] w fun e w' => e = .returned (.bool true) ∧ Below w.heap.size w w' := by
  have q := eq24 a0 a1 a2 a3 b0 b1 b2 b3 false he
  have L1 := Lib.hid (fun w => less_v a0 a1 a2 a3 b0 b1 b2 b3 false ha0 ha1 ha2 ha3 hb0 hb1 hb2 hb3 h1 w)
  have L2 := Lib.hid (fun w => less_v b0 b1 b2 b3 a0 a1 a2 a3 true hb0 hb1 hb2 hb3 ha0 ha1 ha2 ha3 h2 w)
  clear he h1 h2 ha0 ha1 ha2 ha3 hb0 hb1 hb2 hb3 hc0 hc1 hc2 hc3
  go_enter Try.func3, Try.ntmps3
  go_wp2_with (go_at_call 8; refine (sound_calls _).mono ?_; rintro e w1 ⟨rfl, hb0⟩)
  have hv3 := VRow.belowS (b := w.heap.size) (T := 24) (xs := [.int .u64 a0, .int .u64 a1, .int .u64 a2, .int .u64 a3]) (by repeat (first | ((with_reducible refine VRow.new' ?_ ?_); (focus (simp; done)); rfl) | (with_reducible refine VRow.alloc ?_ _) | (with_reducible refine VRow.drew ?_))) hb0
  have hv4 := VRow.belowS (b := w.heap.size + 1) (T := 24) (xs := [.int .u64 b0, .int .u64 b1, .int .u64 b2, .int .u64 b3]) (by repeat (first | ((with_reducible refine VRow.new' ?_ ?_); (focus (simp; done)); rfl) | (with_reducible refine VRow.alloc ?_ _) | (with_reducible refine VRow.drew ?_))) hb0
  have hv5 := VRow.belowS (b := w.heap.size + 1 + 1) (T := 24) (xs := [.int .u64 c0, .int .u64 c1, .int .u64 c2, .int .u64 c3]) (by repeat (first | ((with_reducible refine VRow.new' ?_ ?_); (focus (simp; done)); rfl) | (with_reducible refine VRow.alloc ?_ _) | (with_reducible refine VRow.drew ?_))) hb0
  refine wp_region_plan 5 21 [(.e, 0), (.e, 1), (.p, 2), (.h, 3), (.h, 4), (.b, 5), (.p, 6), (.p, 7), (.e, 8), (.e, 9), (.b, 10), (.p, 11), (.p, 12), (.p, 13), (.p, 14), (.e, 15), (.e, 16), (.b, 17), (.p, 18), (.e, 19), (.e, 20), (.w, 21), (.p, 22), (.p, 23)] mixed (by kernel_rfl) (fun dst _ _ _ _ h => by cases dst <;> exact h) ?_
  intro Q' K' hQ' hK'
  refine with_refl ?_
  intro hB
  simp only [planOps_cons, planOps_nil, getD_zero, getD_succ]
  repeat (first
    | (refine seqC_e_row rfl rfl rfl hv3 Try.underlying24 rfl (by kernel_rfl) ?_; (try simp only [Act.put, List.setIfInBounds_toArray, List.set_cons_zero, List.set_cons_succ]))
    | (refine seqC_h_row rfl rfl rfl hv3 Try.underlying24 rfl (by kernel_rfl) ?_; (try simp only [Act.put, List.setIfInBounds_toArray, List.set_cons_zero, List.set_cons_succ]))
    | (refine seqC_e_row rfl rfl rfl hv4 Try.underlying24 rfl (by kernel_rfl) ?_; (try simp only [Act.put, List.setIfInBounds_toArray, List.set_cons_zero, List.set_cons_succ]))
    | (refine seqC_h_row rfl rfl rfl hv4 Try.underlying24 rfl (by kernel_rfl) ?_; (try simp only [Act.put, List.setIfInBounds_toArray, List.set_cons_zero, List.set_cons_succ]))
    | (refine seqC_e_row rfl rfl rfl hv5 Try.underlying24 rfl (by kernel_rfl) ?_; (try simp only [Act.put, List.setIfInBounds_toArray, List.set_cons_zero, List.set_cons_succ]))
    | (refine seqC_h_row rfl rfl rfl hv5 Try.underlying24 rfl (by kernel_rfl) ?_; (try simp only [Act.put, List.setIfInBounds_toArray, List.set_cons_zero, List.set_cons_succ]))
    | (refine seqC_b (fun K hK => ?_); go_simp; go_at_call 9; ((with_reducible refine (L1.out _).mono ?_); rintro e w1 ⟨rfl, hb1⟩; refine hK _ _ (below_S hB hb1) ?_; replace hB := below_S hB hb1; clear hb1 hK K))
    | (refine seqC_w (fun K hK => ?_); go_simp; go_at_call 9; ((with_reducible refine (L1.out _).mono ?_); rintro e w1 ⟨rfl, hb1⟩; refine hK _ _ ?_; replace hB := below_S hB hb1; clear hb1 hK K))
    | (refine seqC_b (fun K hK => ?_); go_simp; go_at_call 9; ((with_reducible refine (L2.out _).mono ?_); rintro e w1 ⟨rfl, hb1⟩; refine hK _ _ (below_S hB hb1) ?_; replace hB := below_S hB hb1; clear hb1 hK K))
    | (refine seqC_w (fun K hK => ?_); go_simp; go_at_call 9; ((with_reducible refine (L2.out _).mono ?_); rintro e w1 ⟨rfl, hb1⟩; refine hK _ _ ?_; replace hB := below_S hB hb1; clear hb1 hK K))
    | ((first | (with_reducible refine seqC_skip_h rfl ?_) | (with_reducible refine seqC_skip_p rfl ?_) | (with_reducible refine seqC_skip_e rfl ?_) | (with_reducible refine seqC_skip_w rfl ?_) | (with_reducible refine seqC_skip_b hB rfl ?_)); (try simp only [Act.put, List.setIfInBounds_toArray, List.set_cons_zero, List.set_cons_succ]))
    | (refine seqC_h (fun K hK => ?_); go_simp; (try go_bits); refine hK _ ?_; clear hK K)
    | (refine seqC_p (v := ?_) rfl (fun w' => ?_) ?_; rotate_left; go_simp; (try go_bits); (with_reducible rfl); (try simp only [Act.put, List.setIfInBounds_toArray, List.set_cons_zero, List.set_cons_succ]))
    | (refine seqC_e (v := ?_) rfl (fun w' hb' => ?_) ?_; rotate_left; (have hb1 := (bcell hb').1; clear hb'; go_simp; (try go_bits)); (with_reducible rfl); (try simp only [Act.put, List.setIfInBounds_toArray, List.set_cons_zero, List.set_cons_succ]))
    | (refine seqC_w (fun K hK => ?_); go_simp; (try go_bits); refine hK _ _ ?_; clear hK K))
  refine seqC_nil (hK' _ _ ?_)
  clear hK' K' hQ' Q'
  have hbel : Below w.heap.size w _ := below_S (bel_drew (below_S (by repeat (first | (with_reducible exact Below.refl _ _) | (with_reducible refine bel_drew ?_) | (with_reducible refine bel_alloc ?_ _))) hb0)) hB
  replace hv3 := VRow.belowS (VRow.drew hv3) hB
  replace hv4 := VRow.belowS (VRow.drew hv4) hB
  replace hv5 := VRow.belowS (VRow.drew hv5) hB
  clear hB
  go_wp2_with (first
    | (refine wpList_load_vrow rfl rfl rfl hv3 Try.underlying24 rfl (by kernel_rfl) ?_; simp only [Act.put, List.setIfInBounds_toArray, List.set_cons_zero, List.set_cons_succ])
    | (refine wpList_load_vrow rfl rfl rfl hv4 Try.underlying24 rfl (by kernel_rfl) ?_; simp only [Act.put, List.setIfInBounds_toArray, List.set_cons_zero, List.set_cons_succ])
    | (refine wpList_load_vrow rfl rfl rfl hv5 Try.underlying24 rfl (by kernel_rfl) ?_; simp only [Act.put, List.setIfInBounds_toArray, List.set_cons_zero, List.set_cons_succ])
    | (go_at_call 9; (with_reducible refine (L1.out _).mono ?_); rintro e w1 ⟨rfl, hb1⟩; replace hbel := below_S hbel hb1; replace hv3 := VRow.belowS hv3 hb1; replace hv4 := VRow.belowS hv4 hb1; replace hv5 := VRow.belowS hv5 hb1; clear hb1))
  go_ret
  exact ⟨rfl, hbel⟩

set_option maxHeartbeats 1000000 in
theorem order_m (a0 a1 a2 a3 b0 b1 b2 b3 c0 c1 c2 c3 : Int) (ha0 : Wd a0) (ha1 : Wd a1) (ha2 : Wd a2) (ha3 : Wd a3) (hb0 : Wd b0) (hb1 : Wd b1) (hb2 : Wd b2) (hb3 : Wd b3) (hc0 : Wd c0) (hc1 : Wd c1) (hc2 : Wd c2) (hc3 : Wd c3) (he : decide ([a0, a1, a2, a3] = [b0, b1, b2, b3]) = false) (h1 : decide (N a0 a1 a2 a3 < N b0 b1 b2 b3) = true) (h2 : decide (N b0 b1 b2 b3 < N a0 a1 a2 a3) = false) (h3 : decide (N b0 b1 b2 b3 < N c0 c1 c2 c3) = false) (w : World) :
    Calls Try.prog 3 #[.agg #[.int .u64 a0, .int .u64 a1, .int .u64 a2, .int .u64 a3], .agg #[.int .u64 b0, .int .u64 b1, .int .u64 b2, .int .u64 b3], .agg #[.int .u64 c0, .int .u64 c1, .int .u64 c2, .int .u64 c3]] w fun e w' => e = .returned (.bool true) ∧ Below w.heap.size w w' := by
  have q := eq24 a0 a1 a2 a3 b0 b1 b2 b3 false he
  have L1 := Lib.hid (fun w => less_v a0 a1 a2 a3 b0 b1 b2 b3 true ha0 ha1 ha2 ha3 hb0 hb1 hb2 hb3 h1 w)
  have L2 := Lib.hid (fun w => less_v b0 b1 b2 b3 a0 a1 a2 a3 false hb0 hb1 hb2 hb3 ha0 ha1 ha2 ha3 h2 w)
  have L3 := Lib.hid (fun w => less_v b0 b1 b2 b3 c0 c1 c2 c3 false hb0 hb1 hb2 hb3 hc0 hc1 hc2 hc3 h3 w)
  clear he h1 h2 h3 ha0 ha1 ha2 ha3 hb0 hb1 hb2 hb3 hc0 hc1 hc2 hc3
  go_enter Try.func3, Try.ntmps3
  go_wp2_with (go_at_call 8; refine (sound_calls _).mono ?_; rintro e w1 ⟨rfl, hb0⟩)
  have hv3 := VRow.belowS (b := w.heap.size) (T := 24) (xs := [.int .u64 a0, .int .u64 a1, .int .u64 a2, .int .u64 a3]) (by repeat (first | ((with_reducible refine VRow.new' ?_ ?_); (focus (simp; done)); rfl) | (with_reducible refine VRow.alloc ?_ _) | (with_reducible refine VRow.drew ?_))) hb0
  have hv4 := VRow.belowS (b := w.heap.size + 1) (T := 24) (xs := [.int .u64 b0, .int .u64 b1, .int .u64 b2, .int .u64 b3]) (by repeat (first | ((with_reducible refine VRow.new' ?_ ?_); (focus (simp; done)); rfl) | (with_reducible refine VRow.alloc ?_ _) | (with_reducible refine VRow.drew ?_))) hb0
  have hv5 := VRow.belowS (b := w.heap.size + 1 + 1) (T := 24) (xs := [.int .u64 c0, .int .u64 c1, .int .u64 c2, .int .u64 c3]) (by repeat (first | ((with_reducible refine VRow.new' ?_ ?_); (focus (simp; done)); rfl) | (with_reducible refine VRow.alloc ?_ _) | (with_reducible refine VRow.drew ?_))) hb0
  refine wp_region_plan 5 21 [(.e, 0), (.e, 1), (.p, 2), (.h, 3), (.h, 4), (.b, 5), (.p, 6), (.p, 7), (.e, 8), (.e, 9), (.b, 10), (.p, 11), (.p, 12), (.p, 13), (.p, 14), (.e, 15), (.e, 16), (.b, 17), (.p, 18), (.e, 19), (.e, 20), (.w, 21), (.p, 22), (.p, 23)] mixed (by kernel_rfl) (fun dst _ _ _ _ h => by cases dst <;> exact h) ?_
  intro Q' K' hQ' hK'
  refine with_refl ?_
  intro hB
  simp only [planOps_cons, planOps_nil, getD_zero, getD_succ]
  repeat (first
    | (refine seqC_e_row rfl rfl rfl hv3 Try.underlying24 rfl (by kernel_rfl) ?_; (try simp only [Act.put, List.setIfInBounds_toArray, List.set_cons_zero, List.set_cons_succ]))
    | (refine seqC_h_row rfl rfl rfl hv3 Try.underlying24 rfl (by kernel_rfl) ?_; (try simp only [Act.put, List.setIfInBounds_toArray, List.set_cons_zero, List.set_cons_succ]))
    | (refine seqC_e_row rfl rfl rfl hv4 Try.underlying24 rfl (by kernel_rfl) ?_; (try simp only [Act.put, List.setIfInBounds_toArray, List.set_cons_zero, List.set_cons_succ]))
    | (refine seqC_h_row rfl rfl rfl hv4 Try.underlying24 rfl (by kernel_rfl) ?_; (try simp only [Act.put, List.setIfInBounds_toArray, List.set_cons_zero, List.set_cons_succ]))
    | (refine seqC_e_row rfl rfl rfl hv5 Try.underlying24 rfl (by kernel_rfl) ?_; (try simp only [Act.put, List.setIfInBounds_toArray, List.set_cons_zero, List.set_cons_succ]))
    | (refine seqC_h_row rfl rfl rfl hv5 Try.underlying24 rfl (by kernel_rfl) ?_; (try simp only [Act.put, List.setIfInBounds_toArray, List.set_cons_zero, List.set_cons_succ]))
    | (refine seqC_b (fun K hK => ?_); go_simp; go_at_call 9; ((with_reducible refine (L1.out _).mono ?_); rintro e w1 ⟨rfl, hb1⟩; refine hK _ _ (below_S hB hb1) ?_; replace hB := below_S hB hb1; clear hb1 hK K))
    | (refine seqC_w (fun K hK => ?_); go_simp; go_at_call 9; ((with_reducible refine (L1.out _).mono ?_); rintro e w1 ⟨rfl, hb1⟩; refine hK _ _ ?_; replace hB := below_S hB hb1; clear hb1 hK K))
    | (refine seqC_b (fun K hK => ?_); go_simp; go_at_call 9; ((with_reducible refine (L2.out _).mono ?_); rintro e w1 ⟨rfl, hb1⟩; refine hK _ _ (below_S hB hb1) ?_; replace hB := below_S hB hb1; clear hb1 hK K))
    | (refine seqC_w (fun K hK => ?_); go_simp; go_at_call 9; ((with_reducible refine (L2.out _).mono ?_); rintro e w1 ⟨rfl, hb1⟩; refine hK _ _ ?_; replace hB := below_S hB hb1; clear hb1 hK K))
    | ((first | (with_reducible refine seqC_skip_h rfl ?_) | (with_reducible refine seqC_skip_p rfl ?_) | (with_reducible refine seqC_skip_e rfl ?_) | (with_reducible refine seqC_skip_w rfl ?_) | (with_reducible refine seqC_skip_b hB rfl ?_)); (try simp only [Act.put, List.setIfInBounds_toArray, List.set_cons_zero, List.set_cons_succ]))
    | (refine seqC_h (fun K hK => ?_); go_simp; (try go_bits); refine hK _ ?_; clear hK K)
    | (refine seqC_p (v := ?_) rfl (fun w' => ?_) ?_; rotate_left; go_simp; (try go_bits); (with_reducible rfl); (try simp only [Act.put, List.setIfInBounds_toArray, List.set_cons_zero, List.set_cons_succ]))
    | (refine seqC_e (v := ?_) rfl (fun w' hb' => ?_) ?_; rotate_left; (have hb1 := (bcell hb').1; clear hb'; go_simp; (try go_bits)); (with_reducible rfl); (try simp only [Act.put, List.setIfInBounds_toArray, List.set_cons_zero, List.set_cons_succ]))
    | (refine seqC_w (fun K hK => ?_); go_simp; (try go_bits); refine hK _ _ ?_; clear hK K))
  refine seqC_nil (hK' _ _ ?_)
  clear hK' K' hQ' Q'
  have hbel : Below w.heap.size w _ := below_S (bel_drew (below_S (by repeat (first | (with_reducible exact Below.refl _ _) | (with_reducible refine bel_drew ?_) | (with_reducible refine bel_alloc ?_ _))) hb0)) hB
  replace hv3 := VRow.belowS (VRow.drew hv3) hB
  replace hv4 := VRow.belowS (VRow.drew hv4) hB
  replace hv5 := VRow.belowS (VRow.drew hv5) hB
  clear hB
  go_wp2_with (first
    | (refine wpList_load_vrow rfl rfl rfl hv3 Try.underlying24 rfl (by kernel_rfl) ?_; simp only [Act.put, List.setIfInBounds_toArray, List.set_cons_zero, List.set_cons_succ])
    | (refine wpList_load_vrow rfl rfl rfl hv4 Try.underlying24 rfl (by kernel_rfl) ?_; simp only [Act.put, List.setIfInBounds_toArray, List.set_cons_zero, List.set_cons_succ])
    | (refine wpList_load_vrow rfl rfl rfl hv5 Try.underlying24 rfl (by kernel_rfl) ?_; simp only [Act.put, List.setIfInBounds_toArray, List.set_cons_zero, List.set_cons_succ])
    | (go_at_call 9; (with_reducible refine (L1.out _).mono ?_); rintro e w1 ⟨rfl, hb1⟩; replace hbel := below_S hbel hb1; replace hv3 := VRow.belowS hv3 hb1; replace hv4 := VRow.belowS hv4 hb1; replace hv5 := VRow.belowS hv5 hb1; clear hb1)
    | (go_at_call 9; (with_reducible refine (L3.out _).mono ?_); rintro e w1 ⟨rfl, hb1⟩; replace hbel := below_S hbel hb1; replace hv3 := VRow.belowS hv3 hb1; replace hv4 := VRow.belowS hv4 hb1; replace hv5 := VRow.belowS hv5 hb1; clear hb1))
  go_ret
  exact ⟨rfl, hbel⟩

set_option maxHeartbeats 1000000 in
theorem order_l (a0 a1 a2 a3 b0 b1 b2 b3 c0 c1 c2 c3 : Int) (ha0 : Wd a0) (ha1 : Wd a1) (ha2 : Wd a2) (ha3 : Wd a3) (hb0 : Wd b0) (hb1 : Wd b1) (hb2 : Wd b2) (hb3 : Wd b3) (hc0 : Wd c0) (hc1 : Wd c1) (hc2 : Wd c2) (hc3 : Wd c3) (he : decide ([a0, a1, a2, a3] = [b0, b1, b2, b3]) = false) (h1 : decide (N a0 a1 a2 a3 < N b0 b1 b2 b3) = true) (h2 : decide (N b0 b1 b2 b3 < N a0 a1 a2 a3) = false) (h3 : decide (N b0 b1 b2 b3 < N c0 c1 c2 c3) = true) (h4 : decide (N a0 a1 a2 a3 < N c0 c1 c2 c3) = true) (w : World) :
    Calls Try.prog 3 #[.agg #[.int .u64 a0, .int .u64 a1, .int .u64 a2, .int .u64 a3], .agg #[.int .u64 b0, .int .u64 b1, .int .u64 b2, .int .u64 b3], .agg #[.int .u64 c0, .int .u64 c1, .int .u64 c2, .int .u64 c3]] w fun e w' => e = .returned (.bool true) ∧ Below w.heap.size w w' := by
  have q := eq24 a0 a1 a2 a3 b0 b1 b2 b3 false he
  have L1 := Lib.hid (fun w => less_v a0 a1 a2 a3 b0 b1 b2 b3 true ha0 ha1 ha2 ha3 hb0 hb1 hb2 hb3 h1 w)
  have L2 := Lib.hid (fun w => less_v b0 b1 b2 b3 a0 a1 a2 a3 false hb0 hb1 hb2 hb3 ha0 ha1 ha2 ha3 h2 w)
  have L3 := Lib.hid (fun w => less_v b0 b1 b2 b3 c0 c1 c2 c3 true hb0 hb1 hb2 hb3 hc0 hc1 hc2 hc3 h3 w)
  have L4 := Lib.hid (fun w => less_v a0 a1 a2 a3 c0 c1 c2 c3 true ha0 ha1 ha2 ha3 hc0 hc1 hc2 hc3 h4 w)
  clear he h1 h2 h3 h4 ha0 ha1 ha2 ha3 hb0 hb1 hb2 hb3 hc0 hc1 hc2 hc3
  go_enter Try.func3, Try.ntmps3
  go_wp2_with (go_at_call 8; refine (sound_calls _).mono ?_; rintro e w1 ⟨rfl, hb0⟩)
  have hv3 := VRow.belowS (b := w.heap.size) (T := 24) (xs := [.int .u64 a0, .int .u64 a1, .int .u64 a2, .int .u64 a3]) (by repeat (first | ((with_reducible refine VRow.new' ?_ ?_); (focus (simp; done)); rfl) | (with_reducible refine VRow.alloc ?_ _) | (with_reducible refine VRow.drew ?_))) hb0
  have hv4 := VRow.belowS (b := w.heap.size + 1) (T := 24) (xs := [.int .u64 b0, .int .u64 b1, .int .u64 b2, .int .u64 b3]) (by repeat (first | ((with_reducible refine VRow.new' ?_ ?_); (focus (simp; done)); rfl) | (with_reducible refine VRow.alloc ?_ _) | (with_reducible refine VRow.drew ?_))) hb0
  have hv5 := VRow.belowS (b := w.heap.size + 1 + 1) (T := 24) (xs := [.int .u64 c0, .int .u64 c1, .int .u64 c2, .int .u64 c3]) (by repeat (first | ((with_reducible refine VRow.new' ?_ ?_); (focus (simp; done)); rfl) | (with_reducible refine VRow.alloc ?_ _) | (with_reducible refine VRow.drew ?_))) hb0
  refine wp_region_plan 5 21 [(.e, 0), (.e, 1), (.p, 2), (.h, 3), (.h, 4), (.b, 5), (.p, 6), (.p, 7), (.e, 8), (.e, 9), (.b, 10), (.p, 11), (.p, 12), (.p, 13), (.p, 14), (.e, 15), (.e, 16), (.b, 17), (.p, 18), (.e, 19), (.e, 20), (.w, 21), (.p, 22), (.p, 23)] mixed (by kernel_rfl) (fun dst _ _ _ _ h => by cases dst <;> exact h) ?_
  intro Q' K' hQ' hK'
  refine with_refl ?_
  intro hB
  simp only [planOps_cons, planOps_nil, getD_zero, getD_succ]
  repeat (first
    | (refine seqC_e_row rfl rfl rfl hv3 Try.underlying24 rfl (by kernel_rfl) ?_; (try simp only [Act.put, List.setIfInBounds_toArray, List.set_cons_zero, List.set_cons_succ]))
    | (refine seqC_h_row rfl rfl rfl hv3 Try.underlying24 rfl (by kernel_rfl) ?_; (try simp only [Act.put, List.setIfInBounds_toArray, List.set_cons_zero, List.set_cons_succ]))
    | (refine seqC_e_row rfl rfl rfl hv4 Try.underlying24 rfl (by kernel_rfl) ?_; (try simp only [Act.put, List.setIfInBounds_toArray, List.set_cons_zero, List.set_cons_succ]))
    | (refine seqC_h_row rfl rfl rfl hv4 Try.underlying24 rfl (by kernel_rfl) ?_; (try simp only [Act.put, List.setIfInBounds_toArray, List.set_cons_zero, List.set_cons_succ]))
    | (refine seqC_e_row rfl rfl rfl hv5 Try.underlying24 rfl (by kernel_rfl) ?_; (try simp only [Act.put, List.setIfInBounds_toArray, List.set_cons_zero, List.set_cons_succ]))
    | (refine seqC_h_row rfl rfl rfl hv5 Try.underlying24 rfl (by kernel_rfl) ?_; (try simp only [Act.put, List.setIfInBounds_toArray, List.set_cons_zero, List.set_cons_succ]))
    | (refine seqC_b (fun K hK => ?_); go_simp; go_at_call 9; ((with_reducible refine (L1.out _).mono ?_); rintro e w1 ⟨rfl, hb1⟩; refine hK _ _ (below_S hB hb1) ?_; replace hB := below_S hB hb1; clear hb1 hK K))
    | (refine seqC_w (fun K hK => ?_); go_simp; go_at_call 9; ((with_reducible refine (L1.out _).mono ?_); rintro e w1 ⟨rfl, hb1⟩; refine hK _ _ ?_; replace hB := below_S hB hb1; clear hb1 hK K))
    | (refine seqC_b (fun K hK => ?_); go_simp; go_at_call 9; ((with_reducible refine (L2.out _).mono ?_); rintro e w1 ⟨rfl, hb1⟩; refine hK _ _ (below_S hB hb1) ?_; replace hB := below_S hB hb1; clear hb1 hK K))
    | (refine seqC_w (fun K hK => ?_); go_simp; go_at_call 9; ((with_reducible refine (L2.out _).mono ?_); rintro e w1 ⟨rfl, hb1⟩; refine hK _ _ ?_; replace hB := below_S hB hb1; clear hb1 hK K))
    | ((first | (with_reducible refine seqC_skip_h rfl ?_) | (with_reducible refine seqC_skip_p rfl ?_) | (with_reducible refine seqC_skip_e rfl ?_) | (with_reducible refine seqC_skip_w rfl ?_) | (with_reducible refine seqC_skip_b hB rfl ?_)); (try simp only [Act.put, List.setIfInBounds_toArray, List.set_cons_zero, List.set_cons_succ]))
    | (refine seqC_h (fun K hK => ?_); go_simp; (try go_bits); refine hK _ ?_; clear hK K)
    | (refine seqC_p (v := ?_) rfl (fun w' => ?_) ?_; rotate_left; go_simp; (try go_bits); (with_reducible rfl); (try simp only [Act.put, List.setIfInBounds_toArray, List.set_cons_zero, List.set_cons_succ]))
    | (refine seqC_e (v := ?_) rfl (fun w' hb' => ?_) ?_; rotate_left; (have hb1 := (bcell hb').1; clear hb'; go_simp; (try go_bits)); (with_reducible rfl); (try simp only [Act.put, List.setIfInBounds_toArray, List.set_cons_zero, List.set_cons_succ]))
    | (refine seqC_w (fun K hK => ?_); go_simp; (try go_bits); refine hK _ _ ?_; clear hK K))
  refine seqC_nil (hK' _ _ ?_)
  clear hK' K' hQ' Q'
  have hbel : Below w.heap.size w _ := below_S (bel_drew (below_S (by repeat (first | (with_reducible exact Below.refl _ _) | (with_reducible refine bel_drew ?_) | (with_reducible refine bel_alloc ?_ _))) hb0)) hB
  replace hv3 := VRow.belowS (VRow.drew hv3) hB
  replace hv4 := VRow.belowS (VRow.drew hv4) hB
  replace hv5 := VRow.belowS (VRow.drew hv5) hB
  clear hB
  go_wp2_with (first
    | (refine wpList_load_vrow rfl rfl rfl hv3 Try.underlying24 rfl (by kernel_rfl) ?_; simp only [Act.put, List.setIfInBounds_toArray, List.set_cons_zero, List.set_cons_succ])
    | (refine wpList_load_vrow rfl rfl rfl hv4 Try.underlying24 rfl (by kernel_rfl) ?_; simp only [Act.put, List.setIfInBounds_toArray, List.set_cons_zero, List.set_cons_succ])
    | (refine wpList_load_vrow rfl rfl rfl hv5 Try.underlying24 rfl (by kernel_rfl) ?_; simp only [Act.put, List.setIfInBounds_toArray, List.set_cons_zero, List.set_cons_succ])
    | (go_at_call 9; (with_reducible refine (L1.out _).mono ?_); rintro e w1 ⟨rfl, hb1⟩; replace hbel := below_S hbel hb1; replace hv3 := VRow.belowS hv3 hb1; replace hv4 := VRow.belowS hv4 hb1; replace hv5 := VRow.belowS hv5 hb1; clear hb1)
    | (go_at_call 9; (with_reducible refine (L3.out _).mono ?_); rintro e w1 ⟨rfl, hb1⟩; replace hbel := below_S hbel hb1; replace hv3 := VRow.belowS hv3 hb1; replace hv4 := VRow.belowS hv4 hb1; replace hv5 := VRow.belowS hv5 hb1; clear hb1)
    | (go_at_call 9; (with_reducible refine (L4.out _).mono ?_); rintro e w1 ⟨rfl, hb1⟩; replace hbel := below_S hbel hb1; replace hv3 := VRow.belowS hv3 hb1; replace hv4 := VRow.belowS hv4 hb1; replace hv5 := VRow.belowS hv5 hb1; clear hb1))
  go_ret
  exact ⟨rfl, hbel⟩

end Go.Proofs.Ytcbaoppbdhelpaa
