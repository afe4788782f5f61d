import Derived.Test.YtddiamocnkffjaaD
namespace Go.Proofs.Ytddiamocnkffjaa
open Go.RowKit Go.Proofs Go.Proofs.MyK
set_option linter.unusedSimpArgs false
set_option linter.unusedVariables false
theorem xr64' {a b : Int} (ha : W32 a) (hb : W32 b) : bits BinOp.xor IntKind.u64 a b = xr a b := xr64 ha hb
set_option maxHeartbeats 4000000 in
theorem rquarter_calls (s0 : List Int) (a b c d : Nat) (ha : a < 16) (hb : b < 16) (hc : c < 16) (hd : d < 16) (hs0 : A32 s0) (w : World) :
    Calls Try.prog 25 #[.agg (s0.map (Value.int .u64)).toArray, .int .i64 (a : Int), .int .i64 (b : Int), .int .i64 (c : Int), .int .i64 (d : Int)] w fun e w' => e = .returned (.agg ((qr s0 a b c d).map (Value.int .u64)).toArray) ∧ Below w.heap.size w w' := by
  have hs00 := hs0
  have ia : ((a : Int) < 16) := by omega
  have ib : ((b : Int) < 16) := by omega
  have ic : ((c : Int) < 16) := by omega
  have id : ((d : Int) < 16) := by omega
  go_enter Try.func25, Try.ntmps25
  go_wp2_with fail
  refine wp_loop_rounds 5 ?_
  rw [rounds_succ]
  go_wp2_with fail
  have hq : Hid (qr s0 a b c d = (xo7 (ad (xo8 (ad (xo12 (ad (xo16 (ad s0 a b) d a) c d) b c) a b) d a) c d) b c)) := Lib.hid rfl
  refine wp_abs (fun W => IRow W w.heap.size 53 .u64 s0 ∧ VRow W (w.heap.size + 1) 53 (List.replicate 16 (.int .u64 0)) ∧ IRow W (w.heap.size + 1 + 1) 69 .i64 [16, 12, 8, 7] ∧ Below w.heap.size w W) ⟨(by repeat (first | ((with_reducible refine IRow.new' ?_ ?_); (focus (simp; done)); rfl) | (with_reducible refine IRow.alloc ?_ _) | (with_reducible refine IRow.drew ?_))), (by repeat (first | ((with_reducible refine VRow.new' ?_ ?_); (focus (simp; done)); rfl) | (with_reducible refine VRow.alloc ?_ _) | (with_reducible refine VRow.drew ?_))), (by repeat (first | ((with_reducible refine IRow.new' ?_ ?_); (focus (simp; done)); rfl) | (with_reducible refine IRow.alloc ?_ _) | (with_reducible refine IRow.drew ?_))), (by repeat (first | (with_reducible exact Below.refl _ _) | (with_reducible refine bel_drew ?_) | (with_reducible refine bel_alloc ?_ _)))⟩ ?_
  rintro w10 ⟨hr, hv, ht, hbel⟩
  -- step 0
  obtain ⟨Z, hZ⟩ : ∃ Z, (s0).getD a 0 = Z := ⟨_, rfl⟩
  obtain ⟨X, hX⟩ : ∃ X, (s0).getD b 0 = X := ⟨_, rfl⟩
  have wZ : W32 Z := hZ ▸ hs0.wd a
  have wX : W32 X := hX ▸ hs0.wd b
  have cz := hr.cell (k := a) (by rw [hs0.len]; omega)
  have cx := hr.cell (k := b) (by rw [hs0.len]; omega)
  have fz := hr.frozen a
  rw [hZ] at cz
  rw [hX] at cx
  have lZ : a < (s0).length := by rw [hs0.len]; omega
  have HZ := Lib.hid hZ
  have HX := Lib.hid hX
  clear hZ hX
  have z1 := wZ.1
  have z2 := wZ.2
  have x1 := wX.1
  have x2 := wX.2
  refine wp_region_plan 10 10 [(.h, 0), (.h, 1), (.h, 2), (.h, 3), (.h, 4), (.h, 5), (.h, 6), (.h, 7), (.h, 8), (.h, 9), (.w, 10)] mixed (by kernel_rfl) (fun dst _ _ _ _ h => by cases dst <;> exact h) ?_
  intro Q' K' hQ' hK'
  simp only [planOps_cons, planOps_nil, getD_zero, getD_succ]
  repeat (first
    | ((first | (with_reducible refine seqC_skip_h rfl ?_) | (with_reducible refine seqC_skip_p rfl ?_) | (with_reducible refine seqC_skip_e rfl ?_) | (with_reducible refine seqC_skip_w rfl ?_) | (with_reducible refine seqC_skip_b hB rfl ?_)); (try simp only [Act.put, List.setIfInBounds_toArray, List.set_cons_zero, List.set_cons_succ]))
    | (refine seqC_h (fun K hK => ?_); go_simp; (try go_bits); refine hK _ ?_; clear hK K)
    | (refine seqC_p (v := ?_) rfl (fun w' => ?_) ?_; rotate_left; go_simp; (try go_bits); (with_reducible rfl); (try simp only [Act.put, List.setIfInBounds_toArray, List.set_cons_zero, List.set_cons_succ]))
    | (refine seqC_e (v := ?_) rfl (fun w' hb' => ?_) ?_; rotate_left; (have hb1 := (bcell hb').1; clear hb'; go_simp; (try go_bits)); (with_reducible rfl); (try simp only [Act.put, List.setIfInBounds_toArray, List.set_cons_zero, List.set_cons_succ]))
    | (refine seqC_w (fun K hK => ?_); go_simp; (try go_bits); refine hK _ _ ?_; clear hK K))
  refine seqC_nil (hK' _ _ ?_)
  clear hK' K' hQ' Q'
  go_wp2_with fail
  refine wp_abs (fun W => IRow W w.heap.size 53 .u64 (ad (s0) a b) ∧ VRow W (w.heap.size + 1) 53 (List.replicate 16 (.int .u64 0)) ∧ IRow W (w.heap.size + 1 + 1) 69 .i64 [16, 12, 8, 7] ∧ Below w.heap.size w W) ⟨?_, ?_, ?_, ?_⟩ ?_
  · rw [ad_eq HZ.out HX.out]; exact IRow.drew (IRow.set hr _ _)
  · exact VRow.drew (VRow.setO hv (by simp) _)
  · exact IRow.drew (IRow.setO ht (by simp <;> omega) _)
  · exact bel_drew (bel_set hbel (Nat.le_refl _) _)
  clear hr hv ht hbel
  rintro w11 ⟨hr, hv, ht, hbel⟩
  replace hs0 : A32 ((ad s0 a b)) := A32.ad hs0 _ _
  clear HZ HX wZ wX cz cx fz lZ z1 z2 x1 x2
  -- step 1
  obtain ⟨Z, hZ⟩ : ∃ Z, ((ad s0 a b)).getD d 0 = Z := ⟨_, rfl⟩
  obtain ⟨X, hX⟩ : ∃ X, ((ad s0 a b)).getD a 0 = X := ⟨_, rfl⟩
  have wZ : W32 Z := hZ ▸ hs0.wd d
  have wX : W32 X := hX ▸ hs0.wd a
  have cz := hr.cell (k := d) (by rw [hs0.len]; omega)
  have cx := hr.cell (k := a) (by rw [hs0.len]; omega)
  have fz := hr.frozen d
  rw [hZ] at cz
  rw [hX] at cx
  have lZ : d < ((ad s0 a b)).length := by rw [hs0.len]; omega
  have HZ := Lib.hid hZ
  have HX := Lib.hid hX
  clear hZ hX
  have z1 := wZ.1
  have z2 := wZ.2
  have x1 := wX.1
  have x2 := wX.2
  have hxx : bits BinOp.xor IntKind.u64 Z X = xr Z X := xr64 wZ wX
  have ct : _ = some (Value.int .i64 16) := ht.cell (k := 0) (by decide)
  refine wp_region_plan 11 11 [(.p, 0), (.h, 1), (.h, 2), (.h, 3), (.h, 4), (.h, 5), (.h, 6), (.h, 7), (.h, 8), (.h, 9), (.h, 10), (.w, 11), (.p, 12), (.w, 13)] mixed (by kernel_rfl) (fun dst _ _ _ _ h => by cases dst <;> exact h) ?_
  intro Q' K' hQ' hK'
  simp only [planOps_cons, planOps_nil, getD_zero, getD_succ]
  repeat (first
    | (refine seqC_w (fun K hK => ?_); go_simp; go_at_call 36; (with_reducible refine (left16_calls _ (xr_bd wZ wX) _).mono ?_); rintro e w1 ⟨rfl, hb1⟩; have hr1 := IRow.belowS (IRow.drew hr) hb1; have cz1 := hr1.cell (k := d) lZ; rw [HZ.out] at cz1; have fz1 := hr1.frozen d; have hv1 := VRow.belowS (VRow.drew hv) hb1; have ht1 := IRow.belowS (IRow.drew ht) hb1; have hbel1 := below_S (bel_drew hbel) hb1; refine hK _ _ ?_; clear hb1 hK K)
    | ((first | (with_reducible refine seqC_skip_h rfl ?_) | (with_reducible refine seqC_skip_p rfl ?_) | (with_reducible refine seqC_skip_e rfl ?_) | (with_reducible refine seqC_skip_w rfl ?_) | (with_reducible refine seqC_skip_b hB rfl ?_)); (try simp only [Act.put, List.setIfInBounds_toArray, List.set_cons_zero, List.set_cons_succ]))
    | (refine seqC_h (fun K hK => ?_); go_simp; (try go_bits); refine hK _ ?_; clear hK K)
    | (refine seqC_p (v := ?_) rfl (fun w' => ?_) ?_; rotate_left; go_simp; (try go_bits); (with_reducible rfl); (try simp only [Act.put, List.setIfInBounds_toArray, List.set_cons_zero, List.set_cons_succ]))
    | (refine seqC_e (v := ?_) rfl (fun w' hb' => ?_) ?_; rotate_left; (have hb1 := (bcell hb').1; clear hb'; go_simp; (try go_bits)); (with_reducible rfl); (try simp only [Act.put, List.setIfInBounds_toArray, List.set_cons_zero, List.set_cons_succ]))
    | (refine seqC_w (fun K hK => ?_); go_simp; (try go_bits); refine hK _ _ ?_; clear hK K))
  refine seqC_nil (hK' _ _ ?_)
  clear hK' K' hQ' Q'
  go_wp2_with fail
  rw [rounds_succ]
  go_wp2_with fail
  refine wp_abs (fun W => IRow W w.heap.size 53 .u64 (xo16 ((ad s0 a b)) d a) ∧ VRow W (w.heap.size + 1) 53 (List.replicate 16 (.int .u64 0)) ∧ IRow W (w.heap.size + 1 + 1) 69 .i64 [16, 12, 8, 7] ∧ Below w.heap.size w W) ⟨?_, ?_, ?_, ?_⟩ ?_
  · rw [xo16_eq HZ.out HX.out]; exact IRow.set hr1 _ _
  · exact VRow.setO hv1 (by simp) _
  · exact IRow.setO ht1 (by simp <;> omega) _
  · exact bel_set hbel1 (Nat.le_refl _) _
  clear hr hv ht hbel
  rintro w12 ⟨hr, hv, ht, hbel⟩
  replace hs0 : A32 ((xo16 (ad s0 a b) d a)) := A32.xo16 hs0 _ _
  clear HZ HX wZ wX cz cx fz lZ z1 z2 x1 x2
  -- step 2
  obtain ⟨Z, hZ⟩ : ∃ Z, ((xo16 (ad s0 a b) d a)).getD c 0 = Z := ⟨_, rfl⟩
  obtain ⟨X, hX⟩ : ∃ X, ((xo16 (ad s0 a b) d a)).getD d 0 = X := ⟨_, rfl⟩
  have wZ : W32 Z := hZ ▸ hs0.wd c
  have wX : W32 X := hX ▸ hs0.wd d
  have cz := hr.cell (k := c) (by rw [hs0.len]; omega)
  have cx := hr.cell (k := d) (by rw [hs0.len]; omega)
  have fz := hr.frozen c
  rw [hZ] at cz
  rw [hX] at cx
  have lZ : c < ((xo16 (ad s0 a b) d a)).length := by rw [hs0.len]; omega
  have HZ := Lib.hid hZ
  have HX := Lib.hid hX
  clear hZ hX
  have z1 := wZ.1
  have z2 := wZ.2
  have x1 := wX.1
  have x2 := wX.2
  refine wp_region_plan 10 10 [(.h, 0), (.h, 1), (.h, 2), (.h, 3), (.h, 4), (.h, 5), (.h, 6), (.h, 7), (.h, 8), (.h, 9), (.w, 10)] mixed (by kernel_rfl) (fun dst _ _ _ _ h => by cases dst <;> exact h) ?_
  intro Q' K' hQ' hK'
  simp only [planOps_cons, planOps_nil, getD_zero, getD_succ]
  repeat (first
    | ((first | (with_reducible refine seqC_skip_h rfl ?_) | (with_reducible refine seqC_skip_p rfl ?_) | (with_reducible refine seqC_skip_e rfl ?_) | (with_reducible refine seqC_skip_w rfl ?_) | (with_reducible refine seqC_skip_b hB rfl ?_)); (try simp only [Act.put, List.setIfInBounds_toArray, List.set_cons_zero, List.set_cons_succ]))
    | (refine seqC_h (fun K hK => ?_); go_simp; (try go_bits); refine hK _ ?_; clear hK K)
    | (refine seqC_p (v := ?_) rfl (fun w' => ?_) ?_; rotate_left; go_simp; (try go_bits); (with_reducible rfl); (try simp only [Act.put, List.setIfInBounds_toArray, List.set_cons_zero, List.set_cons_succ]))
    | (refine seqC_e (v := ?_) rfl (fun w' hb' => ?_) ?_; rotate_left; (have hb1 := (bcell hb').1; clear hb'; go_simp; (try go_bits)); (with_reducible rfl); (try simp only [Act.put, List.setIfInBounds_toArray, List.set_cons_zero, List.set_cons_succ]))
    | (refine seqC_w (fun K hK => ?_); go_simp; (try go_bits); refine hK _ _ ?_; clear hK K))
  refine seqC_nil (hK' _ _ ?_)
  clear hK' K' hQ' Q'
  go_wp2_with fail
  refine wp_abs (fun W => IRow W w.heap.size 53 .u64 (ad ((xo16 (ad s0 a b) d a)) c d) ∧ VRow W (w.heap.size + 1) 53 (List.replicate 16 (.int .u64 0)) ∧ IRow W (w.heap.size + 1 + 1) 69 .i64 [16, 12, 8, 7] ∧ Below w.heap.size w W) ⟨?_, ?_, ?_, ?_⟩ ?_
  · rw [ad_eq HZ.out HX.out]; exact IRow.drew (IRow.set hr _ _)
  · exact VRow.drew (VRow.setO hv (by simp) _)
  · exact IRow.drew (IRow.setO ht (by simp <;> omega) _)
  · exact bel_drew (bel_set hbel (Nat.le_refl _) _)
  clear hr hv ht hbel
  rintro w13 ⟨hr, hv, ht, hbel⟩
  replace hs0 : A32 ((ad (xo16 (ad s0 a b) d a) c d)) := A32.ad hs0 _ _
  clear HZ HX wZ wX cz cx fz lZ z1 z2 x1 x2
  -- step 3
  obtain ⟨Z, hZ⟩ : ∃ Z, ((ad (xo16 (ad s0 a b) d a) c d)).getD b 0 = Z := ⟨_, rfl⟩
  obtain ⟨X, hX⟩ : ∃ X, ((ad (xo16 (ad s0 a b) d a) c d)).getD c 0 = X := ⟨_, rfl⟩
  have wZ : W32 Z := hZ ▸ hs0.wd b
  have wX : W32 X := hX ▸ hs0.wd c
  have cz := hr.cell (k := b) (by rw [hs0.len]; omega)
  have cx := hr.cell (k := c) (by rw [hs0.len]; omega)
  have fz := hr.frozen b
  rw [hZ] at cz
  rw [hX] at cx
  have lZ : b < ((ad (xo16 (ad s0 a b) d a) c d)).length := by rw [hs0.len]; omega
  have HZ := Lib.hid hZ
  have HX := Lib.hid hX
  clear hZ hX
  have z1 := wZ.1
  have z2 := wZ.2
  have x1 := wX.1
  have x2 := wX.2
  have hxx : bits BinOp.xor IntKind.u64 Z X = xr Z X := xr64 wZ wX
  have ct : _ = some (Value.int .i64 12) := ht.cell (k := 1) (by decide)
  refine wp_region_plan 11 11 [(.p, 0), (.h, 1), (.h, 2), (.h, 3), (.h, 4), (.h, 5), (.h, 6), (.h, 7), (.h, 8), (.h, 9), (.h, 10), (.w, 11), (.p, 12), (.w, 13)] mixed (by kernel_rfl) (fun dst _ _ _ _ h => by cases dst <;> exact h) ?_
  intro Q' K' hQ' hK'
  simp only [planOps_cons, planOps_nil, getD_zero, getD_succ]
  repeat (first
    | (refine seqC_w (fun K hK => ?_); go_simp; go_at_call 36; (with_reducible refine (left12_calls _ (xr_bd wZ wX) _).mono ?_); rintro e w1 ⟨rfl, hb1⟩; have hr1 := IRow.belowS (IRow.drew hr) hb1; have cz1 := hr1.cell (k := b) lZ; rw [HZ.out] at cz1; have fz1 := hr1.frozen b; have hv1 := VRow.belowS (VRow.drew hv) hb1; have ht1 := IRow.belowS (IRow.drew ht) hb1; have hbel1 := below_S (bel_drew hbel) hb1; refine hK _ _ ?_; clear hb1 hK K)
    | ((first | (with_reducible refine seqC_skip_h rfl ?_) | (with_reducible refine seqC_skip_p rfl ?_) | (with_reducible refine seqC_skip_e rfl ?_) | (with_reducible refine seqC_skip_w rfl ?_) | (with_reducible refine seqC_skip_b hB rfl ?_)); (try simp only [Act.put, List.setIfInBounds_toArray, List.set_cons_zero, List.set_cons_succ]))
    | (refine seqC_h (fun K hK => ?_); go_simp; (try go_bits); refine hK _ ?_; clear hK K)
    | (refine seqC_p (v := ?_) rfl (fun w' => ?_) ?_; rotate_left; go_simp; (try go_bits); (with_reducible rfl); (try simp only [Act.put, List.setIfInBounds_toArray, List.set_cons_zero, List.set_cons_succ]))
    | (refine seqC_e (v := ?_) rfl (fun w' hb' => ?_) ?_; rotate_left; (have hb1 := (bcell hb').1; clear hb'; go_simp; (try go_bits)); (with_reducible rfl); (try simp only [Act.put, List.setIfInBounds_toArray, List.set_cons_zero, List.set_cons_succ]))
    | (refine seqC_w (fun K hK => ?_); go_simp; (try go_bits); refine hK _ _ ?_; clear hK K))
  refine seqC_nil (hK' _ _ ?_)
  clear hK' K' hQ' Q'
  go_wp2_with fail
  rw [rounds_succ]
  go_wp2_with fail
  refine wp_abs (fun W => IRow W w.heap.size 53 .u64 (xo12 ((ad (xo16 (ad s0 a b) d a) c d)) b c) ∧ VRow W (w.heap.size + 1) 53 (List.replicate 16 (.int .u64 0)) ∧ IRow W (w.heap.size + 1 + 1) 69 .i64 [16, 12, 8, 7] ∧ Below w.heap.size w W) ⟨?_, ?_, ?_, ?_⟩ ?_
  · rw [xo12_eq HZ.out HX.out]; exact IRow.set hr1 _ _
  · exact VRow.setO hv1 (by simp) _
  · exact IRow.setO ht1 (by simp <;> omega) _
  · exact bel_set hbel1 (Nat.le_refl _) _
  clear hr hv ht hbel
  rintro w14 ⟨hr, hv, ht, hbel⟩
  replace hs0 : A32 ((xo12 (ad (xo16 (ad s0 a b) d a) c d) b c)) := A32.xo12 hs0 _ _
  clear HZ HX wZ wX cz cx fz lZ z1 z2 x1 x2
  -- step 4
  obtain ⟨Z, hZ⟩ : ∃ Z, ((xo12 (ad (xo16 (ad s0 a b) d a) c d) b c)).getD a 0 = Z := ⟨_, rfl⟩
  obtain ⟨X, hX⟩ : ∃ X, ((xo12 (ad (xo16 (ad s0 a b) d a) c d) b c)).getD b 0 = X := ⟨_, rfl⟩
  have wZ : W32 Z := hZ ▸ hs0.wd a
  have wX : W32 X := hX ▸ hs0.wd b
  have cz := hr.cell (k := a) (by rw [hs0.len]; omega)
  have cx := hr.cell (k := b) (by rw [hs0.len]; omega)
  have fz := hr.frozen a
  rw [hZ] at cz
  rw [hX] at cx
  have lZ : a < ((xo12 (ad (xo16 (ad s0 a b) d a) c d) b c)).length := by rw [hs0.len]; omega
  have HZ := Lib.hid hZ
  have HX := Lib.hid hX
  clear hZ hX
  have z1 := wZ.1
  have z2 := wZ.2
  have x1 := wX.1
  have x2 := wX.2
  refine wp_region_plan 10 10 [(.h, 0), (.h, 1), (.h, 2), (.h, 3), (.h, 4), (.h, 5), (.h, 6), (.h, 7), (.h, 8), (.h, 9), (.w, 10)] mixed (by kernel_rfl) (fun dst _ _ _ _ h => by cases dst <;> exact h) ?_
  intro Q' K' hQ' hK'
  simp only [planOps_cons, planOps_nil, getD_zero, getD_succ]
  repeat (first
    | ((first | (with_reducible refine seqC_skip_h rfl ?_) | (with_reducible refine seqC_skip_p rfl ?_) | (with_reducible refine seqC_skip_e rfl ?_) | (with_reducible refine seqC_skip_w rfl ?_) | (with_reducible refine seqC_skip_b hB rfl ?_)); (try simp only [Act.put, List.setIfInBounds_toArray, List.set_cons_zero, List.set_cons_succ]))
    | (refine seqC_h (fun K hK => ?_); go_simp; (try go_bits); refine hK _ ?_; clear hK K)
    | (refine seqC_p (v := ?_) rfl (fun w' => ?_) ?_; rotate_left; go_simp; (try go_bits); (with_reducible rfl); (try simp only [Act.put, List.setIfInBounds_toArray, List.set_cons_zero, List.set_cons_succ]))
    | (refine seqC_e (v := ?_) rfl (fun w' hb' => ?_) ?_; rotate_left; (have hb1 := (bcell hb').1; clear hb'; go_simp; (try go_bits)); (with_reducible rfl); (try simp only [Act.put, List.setIfInBounds_toArray, List.set_cons_zero, List.set_cons_succ]))
    | (refine seqC_w (fun K hK => ?_); go_simp; (try go_bits); refine hK _ _ ?_; clear hK K))
  refine seqC_nil (hK' _ _ ?_)
  clear hK' K' hQ' Q'
  go_wp2_with fail
  refine wp_abs (fun W => IRow W w.heap.size 53 .u64 (ad ((xo12 (ad (xo16 (ad s0 a b) d a) c d) b c)) a b) ∧ VRow W (w.heap.size + 1) 53 (List.replicate 16 (.int .u64 0)) ∧ IRow W (w.heap.size + 1 + 1) 69 .i64 [16, 12, 8, 7] ∧ Below w.heap.size w W) ⟨?_, ?_, ?_, ?_⟩ ?_
  · rw [ad_eq HZ.out HX.out]; exact IRow.drew (IRow.set hr _ _)
  · exact VRow.drew (VRow.setO hv (by simp) _)
  · exact IRow.drew (IRow.setO ht (by simp <;> omega) _)
  · exact bel_drew (bel_set hbel (Nat.le_refl _) _)
  clear hr hv ht hbel
  rintro w15 ⟨hr, hv, ht, hbel⟩
  replace hs0 : A32 ((ad (xo12 (ad (xo16 (ad s0 a b) d a) c d) b c) a b)) := A32.ad hs0 _ _
  clear HZ HX wZ wX cz cx fz lZ z1 z2 x1 x2
  -- step 5
  obtain ⟨Z, hZ⟩ : ∃ Z, ((ad (xo12 (ad (xo16 (ad s0 a b) d a) c d) b c) a b)).getD d 0 = Z := ⟨_, rfl⟩
  obtain ⟨X, hX⟩ : ∃ X, ((ad (xo12 (ad (xo16 (ad s0 a b) d a) c d) b c) a b)).getD a 0 = X := ⟨_, rfl⟩
  have wZ : W32 Z := hZ ▸ hs0.wd d
  have wX : W32 X := hX ▸ hs0.wd a
  have cz := hr.cell (k := d) (by rw [hs0.len]; omega)
  have cx := hr.cell (k := a) (by rw [hs0.len]; omega)
  have fz := hr.frozen d
  rw [hZ] at cz
  rw [hX] at cx
  have lZ : d < ((ad (xo12 (ad (xo16 (ad s0 a b) d a) c d) b c) a b)).length := by rw [hs0.len]; omega
  have HZ := Lib.hid hZ
  have HX := Lib.hid hX
  clear hZ hX
  have z1 := wZ.1
  have z2 := wZ.2
  have x1 := wX.1
  have x2 := wX.2
  have hxx : bits BinOp.xor IntKind.u64 Z X = xr Z X := xr64 wZ wX
  have ct : _ = some (Value.int .i64 8) := ht.cell (k := 2) (by decide)
  refine wp_region_plan 11 11 [(.p, 0), (.h, 1), (.h, 2), (.h, 3), (.h, 4), (.h, 5), (.h, 6), (.h, 7), (.h, 8), (.h, 9), (.h, 10), (.w, 11), (.p, 12), (.w, 13)] mixed (by kernel_rfl) (fun dst _ _ _ _ h => by cases dst <;> exact h) ?_
  intro Q' K' hQ' hK'
  simp only [planOps_cons, planOps_nil, getD_zero, getD_succ]
  repeat (first
    | (refine seqC_w (fun K hK => ?_); go_simp; go_at_call 36; (with_reducible refine (left8_calls _ (xr_bd wZ wX) _).mono ?_); rintro e w1 ⟨rfl, hb1⟩; have hr1 := IRow.belowS (IRow.drew hr) hb1; have cz1 := hr1.cell (k := d) lZ; rw [HZ.out] at cz1; have fz1 := hr1.frozen d; have hv1 := VRow.belowS (VRow.drew hv) hb1; have ht1 := IRow.belowS (IRow.drew ht) hb1; have hbel1 := below_S (bel_drew hbel) hb1; refine hK _ _ ?_; clear hb1 hK K)
    | ((first | (with_reducible refine seqC_skip_h rfl ?_) | (with_reducible refine seqC_skip_p rfl ?_) | (with_reducible refine seqC_skip_e rfl ?_) | (with_reducible refine seqC_skip_w rfl ?_) | (with_reducible refine seqC_skip_b hB rfl ?_)); (try simp only [Act.put, List.setIfInBounds_toArray, List.set_cons_zero, List.set_cons_succ]))
    | (refine seqC_h (fun K hK => ?_); go_simp; (try go_bits); refine hK _ ?_; clear hK K)
    | (refine seqC_p (v := ?_) rfl (fun w' => ?_) ?_; rotate_left; go_simp; (try go_bits); (with_reducible rfl); (try simp only [Act.put, List.setIfInBounds_toArray, List.set_cons_zero, List.set_cons_succ]))
    | (refine seqC_e (v := ?_) rfl (fun w' hb' => ?_) ?_; rotate_left; (have hb1 := (bcell hb').1; clear hb'; go_simp; (try go_bits)); (with_reducible rfl); (try simp only [Act.put, List.setIfInBounds_toArray, List.set_cons_zero, List.set_cons_succ]))
    | (refine seqC_w (fun K hK => ?_); go_simp; (try go_bits); refine hK _ _ ?_; clear hK K))
  refine seqC_nil (hK' _ _ ?_)
  clear hK' K' hQ' Q'
  go_wp2_with fail
  rw [rounds_succ]
  go_wp2_with fail
  refine wp_abs (fun W => IRow W w.heap.size 53 .u64 (xo8 ((ad (xo12 (ad (xo16 (ad s0 a b) d a) c d) b c) a b)) d a) ∧ VRow W (w.heap.size + 1) 53 (List.replicate 16 (.int .u64 0)) ∧ IRow W (w.heap.size + 1 + 1) 69 .i64 [16, 12, 8, 7] ∧ Below w.heap.size w W) ⟨?_, ?_, ?_, ?_⟩ ?_
  · rw [xo8_eq HZ.out HX.out]; exact IRow.set hr1 _ _
  · exact VRow.setO hv1 (by simp) _
  · exact IRow.setO ht1 (by simp <;> omega) _
  · exact bel_set hbel1 (Nat.le_refl _) _
  clear hr hv ht hbel
  rintro w16 ⟨hr, hv, ht, hbel⟩
  replace hs0 : A32 ((xo8 (ad (xo12 (ad (xo16 (ad s0 a b) d a) c d) b c) a b) d a)) := A32.xo8 hs0 _ _
  clear HZ HX wZ wX cz cx fz lZ z1 z2 x1 x2
  -- step 6
  obtain ⟨Z, hZ⟩ : ∃ Z, ((xo8 (ad (xo12 (ad (xo16 (ad s0 a b) d a) c d) b c) a b) d a)).getD c 0 = Z := ⟨_, rfl⟩
  obtain ⟨X, hX⟩ : ∃ X, ((xo8 (ad (xo12 (ad (xo16 (ad s0 a b) d a) c d) b c) a b) d a)).getD d 0 = X := ⟨_, rfl⟩
  have wZ : W32 Z := hZ ▸ hs0.wd c
  have wX : W32 X := hX ▸ hs0.wd d
  have cz := hr.cell (k := c) (by rw [hs0.len]; omega)
  have cx := hr.cell (k := d) (by rw [hs0.len]; omega)
  have fz := hr.frozen c
  rw [hZ] at cz
  rw [hX] at cx
  have lZ : c < ((xo8 (ad (xo12 (ad (xo16 (ad s0 a b) d a) c d) b c) a b) d a)).length := by rw [hs0.len]; omega
  have HZ := Lib.hid hZ
  have HX := Lib.hid hX
  clear hZ hX
  have z1 := wZ.1
  have z2 := wZ.2
  have x1 := wX.1
  have x2 := wX.2
  refine wp_region_plan 10 10 [(.h, 0), (.h, 1), (.h, 2), (.h, 3), (.h, 4), (.h, 5), (.h, 6), (.h, 7), (.h, 8), (.h, 9), (.w, 10)] mixed (by kernel_rfl) (fun dst _ _ _ _ h => by cases dst <;> exact h) ?_
  intro Q' K' hQ' hK'
  simp only [planOps_cons, planOps_nil, getD_zero, getD_succ]
  repeat (first
    | ((first | (with_reducible refine seqC_skip_h rfl ?_) | (with_reducible refine seqC_skip_p rfl ?_) | (with_reducible refine seqC_skip_e rfl ?_) | (with_reducible refine seqC_skip_w rfl ?_) | (with_reducible refine seqC_skip_b hB rfl ?_)); (try simp only [Act.put, List.setIfInBounds_toArray, List.set_cons_zero, List.set_cons_succ]))
    | (refine seqC_h (fun K hK => ?_); go_simp; (try go_bits); refine hK _ ?_; clear hK K)
    | (refine seqC_p (v := ?_) rfl (fun w' => ?_) ?_; rotate_left; go_simp; (try go_bits); (with_reducible rfl); (try simp only [Act.put, List.setIfInBounds_toArray, List.set_cons_zero, List.set_cons_succ]))
    | (refine seqC_e (v := ?_) rfl (fun w' hb' => ?_) ?_; rotate_left; (have hb1 := (bcell hb').1; clear hb'; go_simp; (try go_bits)); (with_reducible rfl); (try simp only [Act.put, List.setIfInBounds_toArray, List.set_cons_zero, List.set_cons_succ]))
    | (refine seqC_w (fun K hK => ?_); go_simp; (try go_bits); refine hK _ _ ?_; clear hK K))
  refine seqC_nil (hK' _ _ ?_)
  clear hK' K' hQ' Q'
  go_wp2_with fail
  refine wp_abs (fun W => IRow W w.heap.size 53 .u64 (ad ((xo8 (ad (xo12 (ad (xo16 (ad s0 a b) d a) c d) b c) a b) d a)) c d) ∧ VRow W (w.heap.size + 1) 53 (List.replicate 16 (.int .u64 0)) ∧ IRow W (w.heap.size + 1 + 1) 69 .i64 [16, 12, 8, 7] ∧ Below w.heap.size w W) ⟨?_, ?_, ?_, ?_⟩ ?_
  · rw [ad_eq HZ.out HX.out]; exact IRow.drew (IRow.set hr _ _)
  · exact VRow.drew (VRow.setO hv (by simp) _)
  · exact IRow.drew (IRow.setO ht (by simp <;> omega) _)
  · exact bel_drew (bel_set hbel (Nat.le_refl _) _)
  clear hr hv ht hbel
  rintro w17 ⟨hr, hv, ht, hbel⟩
  replace hs0 : A32 ((ad (xo8 (ad (xo12 (ad (xo16 (ad s0 a b) d a) c d) b c) a b) d a) c d)) := A32.ad hs0 _ _
  clear HZ HX wZ wX cz cx fz lZ z1 z2 x1 x2
  -- step 7
  obtain ⟨Z, hZ⟩ : ∃ Z, ((ad (xo8 (ad (xo12 (ad (xo16 (ad s0 a b) d a) c d) b c) a b) d a) c d)).getD b 0 = Z := ⟨_, rfl⟩
  obtain ⟨X, hX⟩ : ∃ X, ((ad (xo8 (ad (xo12 (ad (xo16 (ad s0 a b) d a) c d) b c) a b) d a) c d)).getD c 0 = X := ⟨_, rfl⟩
  have wZ : W32 Z := hZ ▸ hs0.wd b
  have wX : W32 X := hX ▸ hs0.wd c
  have cz := hr.cell (k := b) (by rw [hs0.len]; omega)
  have cx := hr.cell (k := c) (by rw [hs0.len]; omega)
  have fz := hr.frozen b
  rw [hZ] at cz
  rw [hX] at cx
  have lZ : b < ((ad (xo8 (ad (xo12 (ad (xo16 (ad s0 a b) d a) c d) b c) a b) d a) c d)).length := by rw [hs0.len]; omega
  have HZ := Lib.hid hZ
  have HX := Lib.hid hX
  clear hZ hX
  have z1 := wZ.1
  have z2 := wZ.2
  have x1 := wX.1
  have x2 := wX.2
  have hxx : bits BinOp.xor IntKind.u64 Z X = xr Z X := xr64 wZ wX
  have ct : _ = some (Value.int .i64 7) := ht.cell (k := 3) (by decide)
  refine wp_region_plan 11 11 [(.p, 0), (.h, 1), (.h, 2), (.h, 3), (.h, 4), (.h, 5), (.h, 6), (.h, 7), (.h, 8), (.h, 9), (.h, 10), (.w, 11), (.p, 12), (.w, 13)] mixed (by kernel_rfl) (fun dst _ _ _ _ h => by cases dst <;> exact h) ?_
  intro Q' K' hQ' hK'
  simp only [planOps_cons, planOps_nil, getD_zero, getD_succ]
  repeat (first
    | (refine seqC_w (fun K hK => ?_); go_simp; go_at_call 36; (with_reducible refine (left7_calls _ (xr_bd wZ wX) _).mono ?_); rintro e w1 ⟨rfl, hb1⟩; have hr1 := IRow.belowS (IRow.drew hr) hb1; have cz1 := hr1.cell (k := b) lZ; rw [HZ.out] at cz1; have fz1 := hr1.frozen b; have hv1 := VRow.belowS (VRow.drew hv) hb1; have ht1 := IRow.belowS (IRow.drew ht) hb1; have hbel1 := below_S (bel_drew hbel) hb1; refine hK _ _ ?_; clear hb1 hK K)
    | ((first | (with_reducible refine seqC_skip_h rfl ?_) | (with_reducible refine seqC_skip_p rfl ?_) | (with_reducible refine seqC_skip_e rfl ?_) | (with_reducible refine seqC_skip_w rfl ?_) | (with_reducible refine seqC_skip_b hB rfl ?_)); (try simp only [Act.put, List.setIfInBounds_toArray, List.set_cons_zero, List.set_cons_succ]))
    | (refine seqC_h (fun K hK => ?_); go_simp; (try go_bits); refine hK _ ?_; clear hK K)
    | (refine seqC_p (v := ?_) rfl (fun w' => ?_) ?_; rotate_left; go_simp; (try go_bits); (with_reducible rfl); (try simp only [Act.put, List.setIfInBounds_toArray, List.set_cons_zero, List.set_cons_succ]))
    | (refine seqC_e (v := ?_) rfl (fun w' hb' => ?_) ?_; rotate_left; (have hb1 := (bcell hb').1; clear hb'; go_simp; (try go_bits)); (with_reducible rfl); (try simp only [Act.put, List.setIfInBounds_toArray, List.set_cons_zero, List.set_cons_succ]))
    | (refine seqC_w (fun K hK => ?_); go_simp; (try go_bits); refine hK _ _ ?_; clear hK K))
  refine seqC_nil (hK' _ _ ?_)
  clear hK' K' hQ' Q'
  go_wp2_with fail
  rw [rounds_succ]
  have hr2 := IRow.set hr1 b (rot7 (xr Z X))
  have hv2 := VRow.setO hv1 (p := ⟨w.heap.size, b, none⟩) (by simp) (Value.int .u64 (rot7 (xr Z X)))
  have hb2 := bel_set hbel1 (p := ⟨w.heap.size, b, none⟩) (Nat.le_refl _) (Value.int .u64 (rot7 (xr Z X)))
  rw [← xo7_eq HZ.out HX.out, ← hq.out] at hr2
  have hlen : (qr s0 a b c d).length = 16 := by rw [hq.out]; simp [xo7, ad, xo8, xo12, xo16, hs00.len]
  go_wp2_with (first
    | (refine wpList_load_vrow rfl rfl rfl hr2 Try.underlying53 rfl (by rw [List.length_map, hlen]; kernel_rfl) ?_; simp only [Act.put, List.setIfInBounds_toArray, List.set_cons_zero, List.set_cons_succ])
    | (refine wpList_store_row rfl 53 _ _ rfl _ _ rfl rfl 53 _ hv2 (by rw [List.size_toArray, List.length_map, hlen]; kernel_rfl) (by simp [hlen]) ?c1 ?_; (case c1 => simp [Value.oneCell'])))
  refine bodyPost_ret (results_cell_row rfl _ _ _ 53 _ (0, 0) _ rfl (VRow.setRow hv2 _) Try.underlying53 rfl (by rw [List.size_toArray, List.length_map, hlen]; kernel_rfl)) rfl ⟨rfl, bel_setRow hb2 (by omega) _⟩
end Go.Proofs.Ytddiamocnkffjaa
