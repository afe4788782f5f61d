import Derived.Test.YtcbaoppbdhelpaaAa
namespace Go.Proofs.Ytcbaoppbdhelpaa
open Go.RowKit Go.Proofs Go.Proofs.MyK
set_option linter.unusedSimpArgs false
set_option linter.unusedVariables false
theorem big_x (a0 a1 a2 a3 : Int) (ha0 : Wd a0) (ha1 : Wd a1) (ha2 : Wd a2) (ha3 : Wd a3) (p : Nat) (w : World) (h : By32 w p 0 (fun k => (bl a0 a1 a2 a3).getD k 0)) :
    Calls Try.prog 21 #[.slice (some ⟨p, 0, none⟩) 32 32] w fun e w' => e = .returned (.tuple #[.agg #[.int .u64 a0, .int .u64 a1, .int .u64 a2, .int .u64 a3], .bool true]) ∧ Below w.heap.size w w' := by
  have c := big_by p 0 32 _ (by omega) (by omega) (bl_bd a0 a1 a2 a3) w h
  rw [bigN_bl a0 a1 a2 a3 ha0 ha1 ha2 ha3] at c
  exact c
theorem little_y (a0 a1 a2 a3 : Int) (ha0 : Wd a0) (ha1 : Wd a1) (ha2 : Wd a2) (ha3 : Wd a3) (p : Nat) (w : World) (h : By32 w p 0 (fun k => (tl a0 a1 a2 a3).getD k 0)) :
    Calls Try.prog 22 #[.slice (some ⟨p, 0, none⟩) 32 32] w fun e w' => e = .returned (.tuple #[.agg #[.int .u64 a0, .int .u64 a1, .int .u64 a2, .int .u64 a3], .bool true]) ∧ Below w.heap.size w w' := by
  have c := little_by p 0 32 _ (by omega) (by omega) (tl_bd a0 a1 a2 a3) w h
  rw [litN_tl a0 a1 a2 a3 ha0 ha1 ha2 ha3] at c
  exact c
theorem rt_bd (z : Nat → Int) (hz : ∀ k, 0 ≤ z k ∧ z k < 256) (k : Nat) : 0 ≤ (rt z 32).getD k 0 ∧ (rt z 32).getD k 0 < 256 := by
  have h : ∀ n, ∀ x ∈ rt z n, 0 ≤ x ∧ x < 256 := by
    intro n
    induction n with
    | zero => intro x hx; cases hx
    | succ n ih => intro x hx; simp only [rt, List.mem_append, List.mem_singleton] at hx; exact hx.elim (fun h => ih x h) (fun h => h ▸ hz _)
  rw [List.getD_eq_getElem?_getD]
  cases hg : (rt z 32)[k]? with
  | none => simp
  | some x => exact h 32 x (List.mem_of_getElem? hg)

set_option maxHeartbeats 8000000 in
theorem bytes_32 (a0 a1 a2 a3 : Int) (ha0 : Wd a0) (ha1 : Wd a1) (ha2 : Wd a2) (ha3 : Wd a3) (b off cap : Nat) (z : Nat → Int) (n0 n1 n2 n3 m0 m1 m2 m3 : Int) (hn : bigN z = [.int .u64 n0, .int .u64 n1, .int .u64 n2, .int .u64 n3]) (hm : litN z = [.int .u64 m0, .int .u64 m1, .int .u64 m2, .int .u64 m3]) (hcap : 32 ≤ cap) (hcap' : cap ≤ 9223372036854775807) (hzb : ∀ k, 0 ≤ z k ∧ z k < 256) (w : World) (hz : By32 w b off z) :
    Calls Try.prog 7 #[.agg #[.int .u64 a0, .int .u64 a1, .int .u64 a2, .int .u64 a3], .slice (some ⟨b, off, none⟩) 32 cap] w fun e w' => e = .returned (.bool true) ∧ Below w.heap.size w w' := by
  have q2 := eq24 n0 n1 n2 n3 n0 n1 n2 n3 true (by simp)
  have q3 := eq24 m0 m1 m2 m3 m0 m1 m2 m3 true (by simp)
  have BB : Hid (∀ w, By32 w b off z → Calls Try.prog 21 #[.slice (some ⟨b, off, none⟩) 32 cap] w fun e w' => e = .returned (.tuple #[.agg #[.int .u64 n0, .int .u64 n1, .int .u64 n2, .int .u64 n3], .bool true]) ∧ Below w.heap.size w w') := Lib.hid (fun w h => by have c := big_by b off cap z hcap hcap' hzb w h; rw [hn] at c; exact c)
  have LB : Hid (∀ w, By32 w b off z → Calls Try.prog 22 #[.slice (some ⟨b, off, none⟩) 32 cap] w fun e w' => e = .returned (.tuple #[.agg #[.int .u64 m0, .int .u64 m1, .int .u64 m2, .int .u64 m3], .bool true]) ∧ Below w.heap.size w w') := Lib.hid (fun w h => by have c := little_by b off cap z hcap hcap' hzb w h; rw [hm] at c; exact c)
  have RB : Hid (∀ w, By32 w b off z → Calls Try.prog 24 #[.slice (some ⟨b, off, none⟩) 32 cap] w fun e w' => e = .returned (.agg #[.int .u64 n0, .int .u64 n1, .int .u64 n2, .int .u64 n3]) ∧ Below w.heap.size w w') := Lib.hid (fun w h => by have c := rbig_by b off cap z hcap hcap' hzb w h; rw [hn] at c; exact c)
  have TB : Hid (∀ w, By32 w b off z → Calls Try.prog 23 #[.slice (some ⟨b, off, none⟩) 32 cap] w fun e w' => (∃ g' cap', e = .returned (.slice (some ⟨g', 0, none⟩) 32 cap') ∧ 32 ≤ cap' ∧ cap' ≤ 9223372036854775807 ∧ By32 w' g' 0 (fun k => (rt z 32).getD k 0)) ∧ Below w.heap.size w w') := Lib.hid (fun w h => turn_by b off cap z hcap hcap' w h)
  have RT : Hid (∀ g c w, 32 ≤ c → c ≤ 9223372036854775807 → By32 w g 0 (fun k => (rt z 32).getD k 0) → Calls Try.prog 24 #[.slice (some ⟨g, 0, none⟩) 32 c] w fun e w' => e = .returned (.agg #[.int .u64 m0, .int .u64 m1, .int .u64 m2, .int .u64 m3]) ∧ Below w.heap.size w w') := Lib.hid (fun g c w h1 h2 h => by have c := rbig_by g 0 c _ h1 h2 (rt_bd z hzb) w h; rw [lit_turn, hm] at c; exact c)
  clear hn hm hzb
  have R1 := Lib.hid (fun w => rbytes_by a0 a1 a2 a3 ha0 ha1 ha2 ha3 w)
  have X1 := Lib.hid (fun w => bytes_by a0 a1 a2 a3 ha0 ha1 ha2 ha3 w)
  have Y1 := Lib.hid (fun w => turned_by a0 a1 a2 a3 ha0 ha1 ha2 ha3 w)
  have BX := Lib.hid (fun p w h => big_x a0 a1 a2 a3 ha0 ha1 ha2 ha3 p w h)
  have LY := Lib.hid (fun p w h => little_y a0 a1 a2 a3 ha0 ha1 ha2 ha3 p w h)
  have q1 := eq24 a0 a1 a2 a3 a0 a1 a2 a3 true (by simp)
  clear ha0 ha1 ha2 ha3
  go_enter Try.func7, Try.ntmps7
  go_wp2_with (first
    | (go_at_call 8; refine (sound_calls _).mono ?_; rintro e w1 ⟨rfl, hb0⟩; have hbel : Below w.heap.size w _ := below_S (by repeat (first | (with_reducible exact Below.refl _ _) | (with_reducible refine bel_drew ?_) | (with_reducible refine bel_alloc ?_ _))) hb0; have hv2 := VRow.belowS (b := w.heap.size) (T := 24) (xs := [.int .u64 a0, .int .u64 a1, .int .u64 a2, .int .u64 a3]) (by repeat (first | ((with_reducible refine VRow.new' ?_ ?_); (focus (simp; done)); rfl) | (with_reducible refine VRow.alloc ?_ _) | (with_reducible refine VRow.drew ?_))) hb0; clear hb0))
  refine wp_region_two mixed (by kernel_rfl) 14 15 16 17 5 6 37 37 (.agg #[.int .u64 a0, .int .u64 a1, .int .u64 a2, .int .u64 a3]) (.agg ((bl a0 a1 a2 a3).map (Value.int .u8)).toArray) (.agg #[.int .u64 a0, .int .u64 a1, .int .u64 a2, .int .u64 a3]) (.agg ((tl a0 a1 a2 a3).map (Value.int .u8)).toArray) (List.replicate 32 (.int .u8 0)) ((bl a0 a1 a2 a3).map (Value.int .u8)) (List.replicate 32 (.int .u8 0)) ((tl a0 a1 a2 a3).map (Value.int .u8))
    ⟨rfl, rfl, rfl, rfl, rfl, rfl, rfl, rfl⟩ ⟨rfl, rfl, rfl, rfl, rfl, rfl, rfl, rfl⟩ (slot6_inj (by kernel_rfl)) (slot6_lt (by kernel_rfl)) (by kernel_rfl) (by kernel_rfl) (by kernel_rfl) (by kernel_rfl) (by kernel_rfl) (by kernel_rfl)
    ?l0 ?l1 ?c0 ?c1 ?z0 ?z1 rfl rfl (by kernel_rfl) rfl (by simp [Value.oneCell']) rfl rfl (by kernel_rfl) rfl (by simp [Value.oneCell']) ?fin
  case z0 => intro a w'; kernel_rfl
  case z1 => intro a w'; kernel_rfl
  case l0 => intro a w' ha hb; exact run_load_vrow 24 (.tmp 2) rfl w.heap.size (eval_tmp (ha 2 (slot6_ne (by kernel_rfl)))) 24 _ _ (VRow.belowS hv2 hb) Try.underlying24 rfl (by kernel_rfl)
  case l1 => intro a w' ha hb; exact run_load_vrow 24 (.tmp 2) rfl w.heap.size (eval_tmp (ha 2 (slot6_ne (by kernel_rfl)))) 24 _ _ (VRow.belowS hv2 hb) Try.underlying24 rfl (by kernel_rfl)
  case c0 =>
    intro a w' K ha hK
    have ev := eval_tmp ha
    go_simp
    go_at_call 18
    refine (X1.out _).mono ?_
    rintro e w1 ⟨rfl, hb1⟩
    exact hK _ hb1
  case c1 =>
    intro a w' K ha hK
    have ev := eval_tmp ha
    go_simp
    go_at_call 19
    refine (Y1.out _).mono ?_
    rintro e w1 ⟨rfl, hb1⟩
    exact hK _ hb1
  case fin =>
    intro p q w2 hpq hp hq hvp hvq hb1
    simp only [Act.put, List.setIfInBounds_toArray, List.set_cons_zero, List.set_cons_succ]
    have hP := By32.ofRow hvp rfl
    have hQ := By32.ofRow hvq rfl
    replace hbel := below_S hbel hb1
    replace hv2 := VRow.belowS hv2 hb1
    clear hvp hvq hb1 hp hq hpq X1 Y1
    go_wp2_with (first
      | (refine wpList_load_vrow rfl rfl rfl hv2 Try.underlying24 rfl (by kernel_rfl) ?_; simp only [Act.put, List.setIfInBounds_toArray, List.set_cons_zero, List.set_cons_succ])
      | (go_at_call 20; (with_reducible refine (R1.out _).mono ?_); rintro e w3 ⟨⟨gw, cw, rfl, hc1, hc2, hW⟩, hb1⟩; replace hbel := below_S hbel hb1; replace hv2 := VRow.belowS (hv2) hb1; replace hP := By32.belowS (hP) hb1; replace hQ := By32.belowS (hQ) hb1; clear hb1)
      | (go_at_call 21; (with_reducible refine (BX.out _ _ hP).mono ?_); rintro e w4 ⟨rfl, hb1⟩; replace hbel := below_S hbel hb1; replace hv2 := VRow.belowS (hv2) hb1; replace hP := By32.belowS (hP) hb1; replace hQ := By32.belowS (hQ) hb1; replace hW := By32.belowS (hW) hb1; clear hb1)
      | (go_at_call 22; (with_reducible refine (LY.out _ _ (By32.alloc hQ _)).mono ?_); rintro e w6 ⟨rfl, hb1⟩; have n28 := VRow.lt hv2; have b8 := hbel.size; replace hbel := below_S (bel_alloc hbel _) hb1; have hv8 := VRow.belowS (VRow.new' (xs := [.int .u64 a0, .int .u64 a1, .int .u64 a2, .int .u64 a3]) rfl rfl) hb1; replace hv2 := VRow.belowS (VRow.alloc hv2 _) hb1; replace hP := By32.belowS (By32.alloc hP _) hb1; replace hQ := By32.belowS (By32.alloc hQ _) hb1; replace hW := By32.belowS (By32.alloc hW _) hb1; clear hb1))
    have b10 := hbel.size
    have n8 := VRow.lt hv8
    refine wp_region_plan2 9 31 [(.h, 0), (.h, 1), (.h, 2), (.h, 3), (.h, 4), (.h, 5), (.p, 6), (.e, 7), (.h, 8), (.b, 9), (.b, 10), (.p, 11), (.p, 12), (.p, 13), (.p, 14), (.p, 15), (.p, 16), (.p, 17), (.p, 18), (.p, 19), (.p, 20), (.p, 21), (.e, 22), (.e, 23), (.p, 24), (.p, 25), (.p, 26), (.e, 27), (.e, 28), (.p, 29), (.p, 30)] mixed (by kernel_rfl) (fun dst _ _ _ _ h => by cases dst <;> exact h) ?_
    intro Q' K' hQ' hK'
    refine with_refl ?_
    intro hB
    simp only [planOps_cons, planOps_nil, getD_zero, getD_succ]
    repeat (first
      | (refine seqC_h_run rfl (run_conv (.tmp 30) rfl rfl (bl a0 a1 a2 a3) rfl (fun k hk => rfl) (By32.drew (By32.alloc hP _))) ?_; simp only [Act.put, List.setIfInBounds_toArray, List.set_cons_zero, List.set_cons_succ])
      | (refine seqC_h_run rfl (run_conv (.tmp 32) rfl rfl (bl a0 a1 a2 a3) rfl (fun k hk => rfl) (By32.drew (By32.alloc hW _))) ?_; simp only [Act.put, List.setIfInBounds_toArray, List.set_cons_zero, List.set_cons_succ])
      | (refine seqC_e rfl (fun w' hb' => run_conv (.tmp 36) rfl rfl (tl a0 a1 a2 a3) rfl (fun k hk => rfl) (By32.belowS (By32.drew (By32.alloc hQ _)) hb')) ?_; simp only [Act.put, List.setIfInBounds_toArray, List.set_cons_zero, List.set_cons_succ])
      | (refine seqC_b (fun K hK => ?_); go_simp; go_at_call 23; (with_reducible refine (turn_by _ _ _ _ hc1 hc2 _ (By32.drew (By32.alloc hW _))).mono ?_); rintro e w5 ⟨⟨gt, ct, rfl, ht1, ht2, hT⟩, hb1⟩; refine hK _ _ (below_S hB hb1) ?_; replace hB := below_S hB hb1; clear hb1 hK K)
      | (refine seqC_b_run hB rfl (run_conv (.tmp 39) rfl rfl (tl a0 a1 a2 a3) rfl (fun k hk => congrArg (fun l => List.getD l k 0) (rt_bl a0 a1 a2 a3)) hT) ?_; simp only [Act.put, List.setIfInBounds_toArray, List.set_cons_zero, List.set_cons_succ])
      | (refine seqC_e_row rfl rfl rfl (VRow.drew (VRow.alloc hv2 _)) Try.underlying24 rfl (by kernel_rfl) ?_; (try simp only [Act.put, List.setIfInBounds_toArray, List.set_cons_zero, List.set_cons_succ]))
      | (refine seqC_h_row rfl rfl rfl (VRow.drew (VRow.alloc hv2 _)) Try.underlying24 rfl (by kernel_rfl) ?_; (try simp only [Act.put, List.setIfInBounds_toArray, List.set_cons_zero, List.set_cons_succ]))
      | (refine seqC_e_row rfl rfl rfl (VRow.drew (VRow.alloc hv8 _)) Try.underlying24 rfl (by kernel_rfl) ?_; (try simp only [Act.put, List.setIfInBounds_toArray, List.set_cons_zero, List.set_cons_succ]))
      | (refine seqC_h_row rfl rfl rfl (VRow.drew (VRow.alloc hv8 _)) Try.underlying24 rfl (by kernel_rfl) ?_; (try simp only [Act.put, List.setIfInBounds_toArray, List.set_cons_zero, List.set_cons_succ]))
      | (refine seqC_e_row rfl rfl rfl (VRow.drew (VRow.new' rfl rfl)) Try.underlying24 rfl (by kernel_rfl) ?_; (try simp only [Act.put, List.setIfInBounds_toArray, List.set_cons_zero, List.set_cons_succ]))
      | (refine seqC_h_row rfl rfl rfl (VRow.drew (VRow.new' rfl rfl)) Try.underlying24 rfl (by kernel_rfl) ?_; (try simp only [Act.put, List.setIfInBounds_toArray, List.set_cons_zero, List.set_cons_succ]))
      | ((first | (with_reducible refine seqC_skip_h rfl ?_) | (with_reducible refine seqC_skip_p rfl ?_) | (with_reducible refine seqC_skip_e rfl ?_) | (with_reducible refine seqC_skip_w rfl ?_) | (with_reducible refine seqC_skip_b hB rfl ?_)); (try simp only [Act.put, List.setIfInBounds_toArray, List.set_cons_zero, List.set_cons_succ]))
      | (refine seqC_h (fun K hK => ?_); go_simp; (try go_bits); refine hK _ ?_; clear hK K)
      | (refine seqC_p (v := ?_) rfl (fun w' => ?_) ?_; rotate_left; go_simp; (try go_bits); (with_reducible rfl); (try simp only [Act.put, List.setIfInBounds_toArray, List.set_cons_zero, List.set_cons_succ]))
      | (refine seqC_e (v := ?_) rfl (fun w' hb' => ?_) ?_; rotate_left; (have hb1 := (bcell hb').1; clear hb'; go_simp; (try go_bits)); (with_reducible rfl); (try simp only [Act.put, List.setIfInBounds_toArray, List.set_cons_zero, List.set_cons_succ]))
      | (refine seqC_w (fun K hK => ?_); go_simp; (try go_bits); refine hK _ _ ?_; clear hK K))
    refine seqC_nil (hK' _ _ ?_)
    clear hK' K' hQ' Q'
    have hv10 := VRow.belowS (VRow.drew (VRow.new' (xs := [.int .u64 a0, .int .u64 a1, .int .u64 a2, .int .u64 a3]) rfl rfl)) hB
    replace hv8 := VRow.belowS (VRow.drew (VRow.alloc hv8 _)) hB
    replace hbel := below_S (bel_drew (bel_alloc hbel _)) hB
    clear hB hP hQ hW hT hv2 R1 BX LY hc1 hc2 ht1 ht2
    go_wp2_with (first
      | (go_at_call 21; (with_reducible refine (BB.out _ (hz.belowS hbel)).mono ?_); rintro e w7 ⟨rfl, hb1⟩; replace hbel := below_S hbel hb1; replace hv8 := VRow.belowS (hv8) hb1; replace hv10 := VRow.belowS (hv10) hb1; clear hb1)
      | (refine wpList_store_row rfl 24 _ _ rfl _ _ rfl rfl 24 _ hv8 (by kernel_rfl) (by kernel_rfl) ?c8 ?_; (case c8 => simp [Value.oneCell']); replace hbel := bel_setRow hbel (g := w4.heap.size) (by omega) (List.toArray [.int .u64 n0, .int .u64 n1, .int .u64 n2, .int .u64 n3]); replace hv10 := VRow.setRowO hv10 (g := w4.heap.size) (by omega) (List.toArray [.int .u64 n0, .int .u64 n1, .int .u64 n2, .int .u64 n3]); have hx8 := VRow.setRow hv8 [.int .u64 n0, .int .u64 n1, .int .u64 n2, .int .u64 n3]; clear hv8)
      | (go_at_call 22; (with_reducible refine (LB.out _ (hz.belowS hbel)).mono ?_); rintro e w7 ⟨rfl, hb1⟩; replace hbel := below_S hbel hb1; replace hx8 := VRow.belowS (hx8) hb1; replace hv10 := VRow.belowS (hv10) hb1; clear hb1)
      | (refine wpList_store_row rfl 24 _ _ rfl _ _ rfl rfl 24 _ hv10 (by kernel_rfl) (by kernel_rfl) ?c10 ?_; (case c10 => simp [Value.oneCell']); replace hbel := bel_setRow hbel (g := w6.heap.size) (by omega) (List.toArray [.int .u64 m0, .int .u64 m1, .int .u64 m2, .int .u64 m3]); replace hx8 := VRow.setRowO hx8 (g := w6.heap.size) (by omega) (List.toArray [.int .u64 m0, .int .u64 m1, .int .u64 m2, .int .u64 m3]); have hx10 := VRow.setRow hv10 [.int .u64 m0, .int .u64 m1, .int .u64 m2, .int .u64 m3]; clear hv10))
    refine wp_region_plan2 7 18 [(.h, 0), (.h, 1), (.h, 2), (.h, 3), (.h, 4), (.e, 5), (.h, 6), (.b, 7), (.p, 8), (.p, 9), (.p, 10), (.e, 11), (.p, 12), (.b, 13), (.b, 14), (.p, 15), (.p, 16), (.p, 17)] mixed (by kernel_rfl) (fun dst _ _ _ _ h => by cases dst <;> exact h) ?_
    intro Q' K' hQ' hK'
    refine with_refl ?_
    intro hB
    simp only [planOps_cons, planOps_nil, getD_zero, getD_succ]
    repeat (first
      | (refine seqC_e_row rfl rfl rfl (VRow.drew hx8) Try.underlying24 rfl (by kernel_rfl) ?_; (try simp only [Act.put, List.setIfInBounds_toArray, List.set_cons_zero, List.set_cons_succ]))
      | (refine seqC_h_row rfl rfl rfl (VRow.drew hx8) Try.underlying24 rfl (by kernel_rfl) ?_; (try simp only [Act.put, List.setIfInBounds_toArray, List.set_cons_zero, List.set_cons_succ]))
      | (refine seqC_e_row rfl rfl rfl (VRow.drew hx10) Try.underlying24 rfl (by kernel_rfl) ?_; (try simp only [Act.put, List.setIfInBounds_toArray, List.set_cons_zero, List.set_cons_succ]))
      | (refine seqC_h_row rfl rfl rfl (VRow.drew hx10) Try.underlying24 rfl (by kernel_rfl) ?_; (try simp only [Act.put, List.setIfInBounds_toArray, List.set_cons_zero, List.set_cons_succ]))
      | (refine seqC_b (fun K hK => ?_); go_simp; go_at_call 24; (with_reducible refine (RB.out _ (hz.belowS (below_S (bel_drew hbel) hB))).mono ?_); rintro e w8 ⟨rfl, hb1⟩; refine hK _ _ (below_S hB hb1) ?_; replace hB := below_S hB hb1; clear hb1 hK K)
      | (refine seqC_b (fun K hK => ?_); go_simp; go_at_call 23; (with_reducible refine (TB.out _ (hz.belowS (below_S (bel_drew hbel) hB))).mono ?_); rintro e w5 ⟨⟨gt, ct, rfl, ht1, ht2, hT⟩, hb1⟩; refine hK _ _ (below_S hB hb1) ?_; replace hB := below_S hB hb1; clear hb1 hK K)
      | (refine seqC_b (fun K hK => ?_); go_simp; go_at_call 24; (with_reducible refine (RT.out _ _ _ ht1 ht2 hT).mono ?_); rintro e w8 ⟨rfl, hb1⟩; refine hK _ _ (below_S hB hb1) ?_; replace hB := below_S hB hb1; clear hb1 hK K)
      | ((first | (with_reducible refine seqC_skip_h rfl ?_) | (with_reducible refine seqC_skip_p rfl ?_) | (with_reducible refine seqC_skip_e rfl ?_) | (with_reducible refine seqC_skip_w rfl ?_) | (with_reducible refine seqC_skip_b hB rfl ?_)); (try simp only [Act.put, List.setIfInBounds_toArray, List.set_cons_zero, List.set_cons_succ]))
      | (refine seqC_h (fun K hK => ?_); go_simp; (try go_bits); refine hK _ ?_; clear hK K)
      | (refine seqC_p (v := ?_) rfl (fun w' => ?_) ?_; rotate_left; go_simp; (try go_bits); (with_reducible rfl); (try simp only [Act.put, List.setIfInBounds_toArray, List.set_cons_zero, List.set_cons_succ]))
      | (refine seqC_e (v := ?_) rfl (fun w' hb' => ?_) ?_; rotate_left; (have hb1 := (bcell hb').1; clear hb'; go_simp; (try go_bits)); (with_reducible rfl); (try simp only [Act.put, List.setIfInBounds_toArray, List.set_cons_zero, List.set_cons_succ]))
      | (refine seqC_w (fun K hK => ?_); go_simp; (try go_bits); refine hK _ _ ?_; clear hK K))
    refine seqC_nil (hK' _ _ ?_)
    clear hK' K' hQ' Q'
    go_wp2_with fail
    go_ret
    exact ⟨rfl, below_S (bel_drew hbel) hB⟩
end Go.Proofs.Ytcbaoppbdhelpaa
