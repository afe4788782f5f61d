import Derived.Test.YtcbaoppbdhelpaaG
import Derived.Test.YtcbaoppbdhelpaaH
import Derived.Test.YtcbaoppbdhelpaaE
import Derived.Test.YtcbaoppbdhelpaaV
import Derived.Test.YtcbaoppbdhelpaaR3
namespace Go.Proofs.Ytcbaoppbdhelpaa
open Go.RowKit Go.Proofs Go.Proofs.MyK
set_option linter.unusedVariables false
set_option linter.unusedSimpArgs false
theorem rless_v (a0 a1 a2 a3 b0 b1 b2 b3 : Int) (v : Bool) (ha0 : Wd a0) (ha1 : Wd a1) (ha2 : Wd a2) (ha3 : Wd a3) (hb0 : Wd b0) (hb1 : Wd b1) (hb2 : Wd b2) (hb3 : Wd b3) (hv : decide (N a0 a1 a2 a3 < N b0 b1 b2 b3) = v) (w : World) :
    Calls Try.prog 17 #[.agg #[.int .u64 a0, .int .u64 a1, .int .u64 a2, .int .u64 a3], .agg #[.int .u64 b0, .int .u64 b1, .int .u64 b2, .int .u64 b3]] w fun e w' => e = .returned (.bool v) ∧ Below w.heap.size w w' := by
  have h := rless_calls a0 a1 a2 a3 b0 b1 b2 b3 w
  have e : rlessB a0 a1 a2 a3 b0 b1 b2 b3 = v := by
    rw [← hv]; unfold rlessB N; unfold Wd M at *
    split
    · split
      · split
        · split
          · symm; rw [decide_eq_false_iff_not]; omega
          · rw [decide_eq_decide]; omega
        · rw [decide_eq_decide]; omega
      · rw [decide_eq_decide]; omega
    · rw [decide_eq_decide]; omega
  rw [e] at h; exact h
set_option maxHeartbeats 4000000 in
theorem sums_core (a0 a1 a2 a3 b0 b1 b2 b3 s0 s1 s2 s3 t0 t1 t2 t3 c d : Int) (v : Bool) (hvd : v = true ∧ d = 1 ∨ v = false ∧ d = 0)
    (A1 : Hid (∀ w, Calls Try.prog 13 #[.agg #[.int .u64 a0, .int .u64 a1, .int .u64 a2, .int .u64 a3], .agg #[.int .u64 b0, .int .u64 b1, .int .u64 b2, .int .u64 b3]] w fun e w' => e = .returned (.tuple #[.agg #[.int .u64 s0, .int .u64 s1, .int .u64 s2, .int .u64 s3], .int .u64 c]) ∧ Below w.heap.size w w'))
    (A2 : Hid (∀ w, Calls Try.prog 14 #[.agg #[.int .u64 a0, .int .u64 a1, .int .u64 a2, .int .u64 a3], .agg #[.int .u64 b0, .int .u64 b1, .int .u64 b2, .int .u64 b3]] w fun e w' => e = .returned (.tuple #[.agg #[.int .u64 s0, .int .u64 s1, .int .u64 s2, .int .u64 s3], .int .u64 c]) ∧ Below w.heap.size w w'))
    (S1 : Hid (∀ w, Calls Try.prog 15 #[.agg #[.int .u64 a0, .int .u64 a1, .int .u64 a2, .int .u64 a3], .agg #[.int .u64 b0, .int .u64 b1, .int .u64 b2, .int .u64 b3]] w fun e w' => e = .returned (.tuple #[.agg #[.int .u64 t0, .int .u64 t1, .int .u64 t2, .int .u64 t3], .int .u64 d]) ∧ Below w.heap.size w w'))
    (S2 : Hid (∀ w, Calls Try.prog 16 #[.agg #[.int .u64 a0, .int .u64 a1, .int .u64 a2, .int .u64 a3], .agg #[.int .u64 b0, .int .u64 b1, .int .u64 b2, .int .u64 b3]] w fun e w' => e = .returned (.tuple #[.agg #[.int .u64 t0, .int .u64 t1, .int .u64 t2, .int .u64 t3], .int .u64 d]) ∧ Below w.heap.size w w'))
    (L1 : Hid (∀ w, Calls Try.prog 9 #[.agg #[.int .u64 a0, .int .u64 a1, .int .u64 a2, .int .u64 a3], .agg #[.int .u64 b0, .int .u64 b1, .int .u64 b2, .int .u64 b3]] w fun e w' => e = .returned (.bool v) ∧ Below w.heap.size w w'))
    (L2 : Hid (∀ w, Calls Try.prog 17 #[.agg #[.int .u64 a0, .int .u64 a1, .int .u64 a2, .int .u64 a3], .agg #[.int .u64 b0, .int .u64 b1, .int .u64 b2, .int .u64 b3]] w fun e w' => e = .returned (.bool v) ∧ Below w.heap.size w w')) (w : World) :
    Calls Try.prog 5 #[.agg #[.int .u64 a0, .int .u64 a1, .int .u64 a2, .int .u64 a3], .agg #[.int .u64 b0, .int .u64 b1, .int .u64 b2, .int .u64 b3]] w fun e w' => e = .returned (.bool true) ∧ Below w.heap.size w w' := by
  have q1 := eq24 s0 s1 s2 s3 s0 s1 s2 s3 true (by simp)
  have q2 := eq24 t0 t1 t2 t3 t0 t1 t2 t3 true (by simp)
  rcases hvd with ⟨rfl, rfl⟩ | ⟨rfl, rfl⟩
  · go_enter Try.func5, Try.ntmps5
    go_wp2_with (first
      | (go_at_call 8; refine (sound_calls _).mono ?_; rintro e w1 ⟨rfl, hb0⟩; have hbel : Below w.heap.size w _ := below_S (by repeat (first | (with_reducible exact Below.refl _ _) | (with_reducible refine bel_drew ?_) | (with_reducible refine bel_alloc ?_ _))) hb0; have hv2 := VRow.belowS (b := w.heap.size) (T := 24) (xs := [.int .u64 a0, .int .u64 a1, .int .u64 a2, .int .u64 a3]) (by repeat (first | ((with_reducible refine VRow.new' ?_ ?_); (focus (simp; done)); rfl) | (with_reducible refine VRow.alloc ?_ _) | (with_reducible refine VRow.drew ?_))) hb0; have hv3 := VRow.belowS (b := w.heap.size + 1) (T := 24) (xs := [.int .u64 b0, .int .u64 b1, .int .u64 b2, .int .u64 b3]) (by repeat (first | ((with_reducible refine VRow.new' ?_ ?_); (focus (simp; done)); rfl) | (with_reducible refine VRow.alloc ?_ _) | (with_reducible refine VRow.drew ?_))) hb0; clear hb0)
      | (refine wpList_load_vrow rfl rfl rfl hv2 Try.underlying24 rfl (by kernel_rfl) ?_; simp only [Act.put, List.setIfInBounds_toArray, List.set_cons_zero, List.set_cons_succ])
      | (refine wpList_load_vrow rfl rfl rfl (VRow.alloc hv2 _) Try.underlying24 rfl (by kernel_rfl) ?_; simp only [Act.put, List.setIfInBounds_toArray, List.set_cons_zero, List.set_cons_succ])
      | (refine wpList_load_vrow rfl rfl rfl hv3 Try.underlying24 rfl (by kernel_rfl) ?_; simp only [Act.put, List.setIfInBounds_toArray, List.set_cons_zero, List.set_cons_succ])
      | (refine wpList_load_vrow rfl rfl rfl (VRow.alloc hv3 _) Try.underlying24 rfl (by kernel_rfl) ?_; simp only [Act.put, List.setIfInBounds_toArray, List.set_cons_zero, List.set_cons_succ])
      | (go_at_call 13; (with_reducible refine (A1.out _).mono ?_); rintro e w1 ⟨rfl, hb1⟩; replace hbel := below_S hbel hb1; replace hv2 := VRow.belowS hv2 hb1; replace hv3 := VRow.belowS hv3 hb1; clear hb1)
      | (go_at_call 14; (with_reducible refine (A2.out _).mono ?_); rintro e w1 ⟨rfl, hb1⟩; replace hbel := below_S (bel_alloc hbel _) hb1; replace hv2 := VRow.belowS (VRow.alloc hv2 _) hb1; replace hv3 := VRow.belowS (VRow.alloc hv3 _) hb1; have hv5 := VRow.belowS (VRow.new' (xs := [.int .u64 s0, .int .u64 s1, .int .u64 s2, .int .u64 s3]) rfl rfl) hb1; clear hb1)
      | (go_at_call 15; (with_reducible refine (S1.out _).mono ?_); rintro e w1 ⟨rfl, hb1⟩; replace hbel := below_S (bel_alloc hbel _) hb1; replace hv2 := VRow.belowS (VRow.alloc hv2 _) hb1; replace hv3 := VRow.belowS (VRow.alloc hv3 _) hb1; replace hv5 := VRow.belowS (VRow.alloc hv5 _) hb1; have hv7 := VRow.belowS (VRow.new' (xs := [.int .u64 s0, .int .u64 s1, .int .u64 s2, .int .u64 s3]) rfl rfl) hb1; clear hb1)
      | (go_at_call 16; (with_reducible refine (S2.out _).mono ?_); rintro e w1 ⟨rfl, hb1⟩; replace hbel := below_S (bel_alloc hbel _) hb1; replace hv2 := VRow.belowS (VRow.alloc hv2 _) hb1; replace hv3 := VRow.belowS (VRow.alloc hv3 _) hb1; replace hv5 := VRow.belowS (VRow.alloc hv5 _) hb1; replace hv7 := VRow.belowS (VRow.alloc hv7 _) hb1; have hv9 := VRow.belowS (VRow.new' (xs := [.int .u64 t0, .int .u64 t1, .int .u64 t2, .int .u64 t3]) rfl rfl) hb1; clear hb1))
    refine wp_region_plan2 21 30 [(.h, 0), (.h, 1), (.h, 2), (.h, 3), (.h, 4), (.h, 5), (.h, 6), (.h, 7), (.h, 8), (.h, 9), (.h, 10), (.h, 11), (.h, 12), (.h, 13), (.h, 14), (.h, 15), (.h, 16), (.h, 17), (.h, 18), (.h, 19), (.h, 20), (.e, 22), (.e, 23), (.b, 21), (.b, 24), (.p, 25), (.p, 26), (.p, 27), (.e, 28), (.e, 29), (.p, 31), (.p, 32), (.w, 30), (.p, 33), (.p, 34), (.p, 35)] mixed (by kernel_rfl) (fun dst _ _ _ _ h => by cases dst <;> exact h) ?_
    intro Q' K' hQ' hK'
    refine with_refl ?_
    intro hB
    simp only [planOps_cons, planOps_nil, getD_zero, getD_succ]
    repeat (first
      | (refine seqC_b (fun K hK => ?_); go_simp; go_at_call 9; ((with_reducible refine (L1.out _).mono ?_); rintro e w1 ⟨rfl, hb1⟩; refine hK _ _ (below_S hB hb1) ?_; replace hB := below_S hB hb1; clear hb1 hK K))
      | (refine seqC_w (fun K hK => ?_); go_simp; go_at_call 9; ((with_reducible refine (L1.out _).mono ?_); rintro e w1 ⟨rfl, hb1⟩; refine hK _ _ ?_; replace hB := below_S hB hb1; clear hb1 hK K))
      | (refine seqC_b (fun K hK => ?_); go_simp; go_at_call 17; ((with_reducible refine (L2.out _).mono ?_); rintro e w1 ⟨rfl, hb1⟩; refine hK _ _ (below_S hB hb1) ?_; replace hB := below_S hB hb1; clear hb1 hK K))
      | (refine seqC_w (fun K hK => ?_); go_simp; go_at_call 17; ((with_reducible refine (L2.out _).mono ?_); rintro e w1 ⟨rfl, hb1⟩; refine hK _ _ ?_; replace hB := below_S hB hb1; clear hb1 hK K))
      | (refine seqC_e_row rfl rfl rfl (VRow.drew (VRow.alloc hv2 _)) Try.underlying24 rfl (by kernel_rfl) ?_; (try simp only [Act.put, List.setIfInBounds_toArray, List.set_cons_zero, List.set_cons_succ]))
      | (refine seqC_h_row rfl rfl rfl (VRow.drew (VRow.alloc hv2 _)) Try.underlying24 rfl (by kernel_rfl) ?_; (try simp only [Act.put, List.setIfInBounds_toArray, List.set_cons_zero, List.set_cons_succ]))
      | (refine seqC_e_row rfl rfl rfl (VRow.drew (VRow.alloc hv3 _)) Try.underlying24 rfl (by kernel_rfl) ?_; (try simp only [Act.put, List.setIfInBounds_toArray, List.set_cons_zero, List.set_cons_succ]))
      | (refine seqC_h_row rfl rfl rfl (VRow.drew (VRow.alloc hv3 _)) Try.underlying24 rfl (by kernel_rfl) ?_; (try simp only [Act.put, List.setIfInBounds_toArray, List.set_cons_zero, List.set_cons_succ]))
      | (refine seqC_e_row rfl rfl rfl (VRow.drew (VRow.alloc hv5 _)) Try.underlying24 rfl (by kernel_rfl) ?_; (try simp only [Act.put, List.setIfInBounds_toArray, List.set_cons_zero, List.set_cons_succ]))
      | (refine seqC_h_row rfl rfl rfl (VRow.drew (VRow.alloc hv5 _)) Try.underlying24 rfl (by kernel_rfl) ?_; (try simp only [Act.put, List.setIfInBounds_toArray, List.set_cons_zero, List.set_cons_succ]))
      | (refine seqC_e_row rfl rfl rfl (VRow.drew (VRow.alloc hv7 _)) Try.underlying24 rfl (by kernel_rfl) ?_; (try simp only [Act.put, List.setIfInBounds_toArray, List.set_cons_zero, List.set_cons_succ]))
      | (refine seqC_h_row rfl rfl rfl (VRow.drew (VRow.alloc hv7 _)) Try.underlying24 rfl (by kernel_rfl) ?_; (try simp only [Act.put, List.setIfInBounds_toArray, List.set_cons_zero, List.set_cons_succ]))
      | (refine seqC_e_row rfl rfl rfl (VRow.drew (VRow.alloc hv9 _)) Try.underlying24 rfl (by kernel_rfl) ?_; (try simp only [Act.put, List.setIfInBounds_toArray, List.set_cons_zero, List.set_cons_succ]))
      | (refine seqC_h_row rfl rfl rfl (VRow.drew (VRow.alloc hv9 _)) Try.underlying24 rfl (by kernel_rfl) ?_; (try simp only [Act.put, List.setIfInBounds_toArray, List.set_cons_zero, List.set_cons_succ]))
      | (refine seqC_e_row rfl rfl rfl (VRow.drew (VRow.new' rfl rfl)) Try.underlying24 rfl (by kernel_rfl) ?_; (try simp only [Act.put, List.setIfInBounds_toArray, List.set_cons_zero, List.set_cons_succ]))
      | (refine seqC_h_row rfl rfl rfl (VRow.drew (VRow.new' rfl rfl)) Try.underlying24 rfl (by kernel_rfl) ?_; (try simp only [Act.put, List.setIfInBounds_toArray, List.set_cons_zero, List.set_cons_succ]))
      | ((first | (with_reducible refine seqC_skip_h rfl ?_) | (with_reducible refine seqC_skip_p rfl ?_) | (with_reducible refine seqC_skip_e rfl ?_) | (with_reducible refine seqC_skip_w rfl ?_) | (with_reducible refine seqC_skip_b hB rfl ?_)); (try simp only [Act.put, List.setIfInBounds_toArray, List.set_cons_zero, List.set_cons_succ]))
      | (refine seqC_h (fun K hK => ?_); go_simp; (try go_bits); refine hK _ ?_; clear hK K)
      | (refine seqC_p (v := ?_) rfl (fun w' => ?_) ?_; rotate_left; go_simp; (try go_bits); (with_reducible rfl); (try simp only [Act.put, List.setIfInBounds_toArray, List.set_cons_zero, List.set_cons_succ]))
      | (refine seqC_e (v := ?_) rfl (fun w' hb' => ?_) ?_; rotate_left; (have hb1 := (bcell hb').1; clear hb'; go_simp; (try go_bits)); (with_reducible rfl); (try simp only [Act.put, List.setIfInBounds_toArray, List.set_cons_zero, List.set_cons_succ]))
      | (refine seqC_w (fun K hK => ?_); go_simp; (try go_bits); refine hK _ _ ?_; clear hK K))
    refine seqC_nil (hK' _ _ ?_)
    clear hK' K' hQ' Q'
    go_wp2_with fail
    go_ret
    exact ⟨rfl, below_S (bel_drew (bel_alloc hbel _)) hB⟩
  · go_enter Try.func5, Try.ntmps5
    go_wp2_with (first
      | (go_at_call 8; refine (sound_calls _).mono ?_; rintro e w1 ⟨rfl, hb0⟩; have hbel : Below w.heap.size w _ := below_S (by repeat (first | (with_reducible exact Below.refl _ _) | (with_reducible refine bel_drew ?_) | (with_reducible refine bel_alloc ?_ _))) hb0; have hv2 := VRow.belowS (b := w.heap.size) (T := 24) (xs := [.int .u64 a0, .int .u64 a1, .int .u64 a2, .int .u64 a3]) (by repeat (first | ((with_reducible refine VRow.new' ?_ ?_); (focus (simp; done)); rfl) | (with_reducible refine VRow.alloc ?_ _) | (with_reducible refine VRow.drew ?_))) hb0; have hv3 := VRow.belowS (b := w.heap.size + 1) (T := 24) (xs := [.int .u64 b0, .int .u64 b1, .int .u64 b2, .int .u64 b3]) (by repeat (first | ((with_reducible refine VRow.new' ?_ ?_); (focus (simp; done)); rfl) | (with_reducible refine VRow.alloc ?_ _) | (with_reducible refine VRow.drew ?_))) hb0; clear hb0)
      | (refine wpList_load_vrow rfl rfl rfl hv2 Try.underlying24 rfl (by kernel_rfl) ?_; simp only [Act.put, List.setIfInBounds_toArray, List.set_cons_zero, List.set_cons_succ])
      | (refine wpList_load_vrow rfl rfl rfl (VRow.alloc hv2 _) Try.underlying24 rfl (by kernel_rfl) ?_; simp only [Act.put, List.setIfInBounds_toArray, List.set_cons_zero, List.set_cons_succ])
      | (refine wpList_load_vrow rfl rfl rfl hv3 Try.underlying24 rfl (by kernel_rfl) ?_; simp only [Act.put, List.setIfInBounds_toArray, List.set_cons_zero, List.set_cons_succ])
      | (refine wpList_load_vrow rfl rfl rfl (VRow.alloc hv3 _) Try.underlying24 rfl (by kernel_rfl) ?_; simp only [Act.put, List.setIfInBounds_toArray, List.set_cons_zero, List.set_cons_succ])
      | (go_at_call 13; (with_reducible refine (A1.out _).mono ?_); rintro e w1 ⟨rfl, hb1⟩; replace hbel := below_S hbel hb1; replace hv2 := VRow.belowS hv2 hb1; replace hv3 := VRow.belowS hv3 hb1; clear hb1)
      | (go_at_call 14; (with_reducible refine (A2.out _).mono ?_); rintro e w1 ⟨rfl, hb1⟩; replace hbel := below_S (bel_alloc hbel _) hb1; replace hv2 := VRow.belowS (VRow.alloc hv2 _) hb1; replace hv3 := VRow.belowS (VRow.alloc hv3 _) hb1; have hv5 := VRow.belowS (VRow.new' (xs := [.int .u64 s0, .int .u64 s1, .int .u64 s2, .int .u64 s3]) rfl rfl) hb1; clear hb1)
      | (go_at_call 15; (with_reducible refine (S1.out _).mono ?_); rintro e w1 ⟨rfl, hb1⟩; replace hbel := below_S (bel_alloc hbel _) hb1; replace hv2 := VRow.belowS (VRow.alloc hv2 _) hb1; replace hv3 := VRow.belowS (VRow.alloc hv3 _) hb1; replace hv5 := VRow.belowS (VRow.alloc hv5 _) hb1; have hv7 := VRow.belowS (VRow.new' (xs := [.int .u64 s0, .int .u64 s1, .int .u64 s2, .int .u64 s3]) rfl rfl) hb1; clear hb1)
      | (go_at_call 16; (with_reducible refine (S2.out _).mono ?_); rintro e w1 ⟨rfl, hb1⟩; replace hbel := below_S (bel_alloc hbel _) hb1; replace hv2 := VRow.belowS (VRow.alloc hv2 _) hb1; replace hv3 := VRow.belowS (VRow.alloc hv3 _) hb1; replace hv5 := VRow.belowS (VRow.alloc hv5 _) hb1; replace hv7 := VRow.belowS (VRow.alloc hv7 _) hb1; have hv9 := VRow.belowS (VRow.new' (xs := [.int .u64 t0, .int .u64 t1, .int .u64 t2, .int .u64 t3]) rfl rfl) hb1; clear hb1))
    refine wp_region_plan2 21 30 [(.h, 0), (.h, 1), (.h, 2), (.h, 3), (.h, 4), (.h, 5), (.h, 6), (.h, 7), (.h, 8), (.h, 9), (.h, 10), (.h, 11), (.h, 12), (.h, 13), (.h, 14), (.h, 15), (.h, 16), (.h, 17), (.h, 18), (.h, 19), (.h, 20), (.e, 22), (.e, 23), (.b, 21), (.b, 24), (.p, 25), (.p, 26), (.p, 27), (.e, 28), (.e, 29), (.p, 31), (.p, 32), (.w, 30), (.p, 33), (.p, 34), (.p, 35)] mixed (by kernel_rfl) (fun dst _ _ _ _ h => by cases dst <;> exact h) ?_
    intro Q' K' hQ' hK'
    refine with_refl ?_
    intro hB
    simp only [planOps_cons, planOps_nil, getD_zero, getD_succ]
    repeat (first
      | (refine seqC_b (fun K hK => ?_); go_simp; go_at_call 9; ((with_reducible refine (L1.out _).mono ?_); rintro e w1 ⟨rfl, hb1⟩; refine hK _ _ (below_S hB hb1) ?_; replace hB := below_S hB hb1; clear hb1 hK K))
      | (refine seqC_w (fun K hK => ?_); go_simp; go_at_call 9; ((with_reducible refine (L1.out _).mono ?_); rintro e w1 ⟨rfl, hb1⟩; refine hK _ _ ?_; replace hB := below_S hB hb1; clear hb1 hK K))
      | (refine seqC_b (fun K hK => ?_); go_simp; go_at_call 17; ((with_reducible refine (L2.out _).mono ?_); rintro e w1 ⟨rfl, hb1⟩; refine hK _ _ (below_S hB hb1) ?_; replace hB := below_S hB hb1; clear hb1 hK K))
      | (refine seqC_w (fun K hK => ?_); go_simp; go_at_call 17; ((with_reducible refine (L2.out _).mono ?_); rintro e w1 ⟨rfl, hb1⟩; refine hK _ _ ?_; replace hB := below_S hB hb1; clear hb1 hK K))
      | (refine seqC_e_row rfl rfl rfl (VRow.drew (VRow.alloc hv2 _)) Try.underlying24 rfl (by kernel_rfl) ?_; (try simp only [Act.put, List.setIfInBounds_toArray, List.set_cons_zero, List.set_cons_succ]))
      | (refine seqC_h_row rfl rfl rfl (VRow.drew (VRow.alloc hv2 _)) Try.underlying24 rfl (by kernel_rfl) ?_; (try simp only [Act.put, List.setIfInBounds_toArray, List.set_cons_zero, List.set_cons_succ]))
      | (refine seqC_e_row rfl rfl rfl (VRow.drew (VRow.alloc hv3 _)) Try.underlying24 rfl (by kernel_rfl) ?_; (try simp only [Act.put, List.setIfInBounds_toArray, List.set_cons_zero, List.set_cons_succ]))
      | (refine seqC_h_row rfl rfl rfl (VRow.drew (VRow.alloc hv3 _)) Try.underlying24 rfl (by kernel_rfl) ?_; (try simp only [Act.put, List.setIfInBounds_toArray, List.set_cons_zero, List.set_cons_succ]))
      | (refine seqC_e_row rfl rfl rfl (VRow.drew (VRow.alloc hv5 _)) Try.underlying24 rfl (by kernel_rfl) ?_; (try simp only [Act.put, List.setIfInBounds_toArray, List.set_cons_zero, List.set_cons_succ]))
      | (refine seqC_h_row rfl rfl rfl (VRow.drew (VRow.alloc hv5 _)) Try.underlying24 rfl (by kernel_rfl) ?_; (try simp only [Act.put, List.setIfInBounds_toArray, List.set_cons_zero, List.set_cons_succ]))
      | (refine seqC_e_row rfl rfl rfl (VRow.drew (VRow.alloc hv7 _)) Try.underlying24 rfl (by kernel_rfl) ?_; (try simp only [Act.put, List.setIfInBounds_toArray, List.set_cons_zero, List.set_cons_succ]))
      | (refine seqC_h_row rfl rfl rfl (VRow.drew (VRow.alloc hv7 _)) Try.underlying24 rfl (by kernel_rfl) ?_; (try simp only [Act.put, List.setIfInBounds_toArray, List.set_cons_zero, List.set_cons_succ]))
      | (refine seqC_e_row rfl rfl rfl (VRow.drew (VRow.alloc hv9 _)) Try.underlying24 rfl (by kernel_rfl) ?_; (try simp only [Act.put, List.setIfInBounds_toArray, List.set_cons_zero, List.set_cons_succ]))
      | (refine seqC_h_row rfl rfl rfl (VRow.drew (VRow.alloc hv9 _)) Try.underlying24 rfl (by kernel_rfl) ?_; (try simp only [Act.put, List.setIfInBounds_toArray, List.set_cons_zero, List.set_cons_succ]))
      | (refine seqC_e_row rfl rfl rfl (VRow.drew (VRow.new' rfl rfl)) Try.underlying24 rfl (by kernel_rfl) ?_; (try simp only [Act.put, List.setIfInBounds_toArray, List.set_cons_zero, List.set_cons_succ]))
      | (refine seqC_h_row rfl rfl rfl (VRow.drew (VRow.new' rfl rfl)) Try.underlying24 rfl (by kernel_rfl) ?_; (try simp only [Act.put, List.setIfInBounds_toArray, List.set_cons_zero, List.set_cons_succ]))
      | ((first | (with_reducible refine seqC_skip_h rfl ?_) | (with_reducible refine seqC_skip_p rfl ?_) | (with_reducible refine seqC_skip_e rfl ?_) | (with_reducible refine seqC_skip_w rfl ?_) | (with_reducible refine seqC_skip_b hB rfl ?_)); (try simp only [Act.put, List.setIfInBounds_toArray, List.set_cons_zero, List.set_cons_succ]))
      | (refine seqC_h (fun K hK => ?_); go_simp; (try go_bits); refine hK _ ?_; clear hK K)
      | (refine seqC_p (v := ?_) rfl (fun w' => ?_) ?_; rotate_left; go_simp; (try go_bits); (with_reducible rfl); (try simp only [Act.put, List.setIfInBounds_toArray, List.set_cons_zero, List.set_cons_succ]))
      | (refine seqC_e (v := ?_) rfl (fun w' hb' => ?_) ?_; rotate_left; (have hb1 := (bcell hb').1; clear hb'; go_simp; (try go_bits)); (with_reducible rfl); (try simp only [Act.put, List.setIfInBounds_toArray, List.set_cons_zero, List.set_cons_succ]))
      | (refine seqC_w (fun K hK => ?_); go_simp; (try go_bits); refine hK _ _ ?_; clear hK K))
    refine seqC_nil (hK' _ _ ?_)
    clear hK' K' hQ' Q'
    go_wp2_with fail
    go_ret
    exact ⟨rfl, below_S (bel_drew (bel_alloc hbel _)) hB⟩
end Go.Proofs.Ytcbaoppbdhelpaa
