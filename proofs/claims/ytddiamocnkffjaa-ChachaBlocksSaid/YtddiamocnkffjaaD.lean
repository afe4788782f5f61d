import Derived.Test.YtddiamocnkffjaaC
namespace Go.Proofs.Ytddiamocnkffjaa
open Go.RowKit Go.Proofs Go.Proofs.MyK
set_option linter.unusedSimpArgs false
set_option linter.unusedVariables false
theorem wp_abs {P : Program} {c : Code} {Q : Exit → Act → World → Prop} {a : Act} {w : World} (R : World → Prop) (hR : R w) (h : ∀ w', R w' → c.wp P Q a w') : c.wp P Q a w := h w hR
/-- Sixteen words of 32 bits. -/
structure A32 (s : List Int) : Prop where
  len : s.length = 16
  wd : ∀ k, W32 (s.getD k 0)
theorem getD_set (s : List Int) (i k : Nat) (v : Int) : (s.set i v).getD k 0 = if i = k ∧ i < s.length then v else s.getD k 0 := by
  simp only [List.getD_eq_getElem?_getD, List.getElem?_set]
  by_cases h : i = k
  · subst h
    by_cases hl : i < s.length
    · simp [hl]
    · simp [hl]
  · simp [h]
theorem A32.set {s : List Int} (h : A32 s) (i : Nat) {v : Int} (hv : W32 v) : A32 (s.set i v) := by
  refine ⟨by simp [h.len], fun k => ?_⟩
  rw [getD_set]; split
  · exact hv
  · exact h.wd k
def ad (s : List Int) (x y : Nat) : List Int := s.set x ((s.getD x 0 + s.getD y 0) % 4294967296)
theorem ad_eq {s : List Int} {x y : Nat} {X Y : Int} (h1 : s.getD x 0 = X) (h2 : s.getD y 0 = Y) : ad s x y = s.set x ((X + Y) % 4294967296) := by unfold ad; rw [h1, h2]
theorem A32.ad {s : List Int} (h : A32 s) (x y : Nat) : A32 (ad s x y) := h.set x (by unfold W32; omega)
def xo16 (s : List Int) (z x : Nat) : List Int := s.set z (rot16 (xr (s.getD z 0) (s.getD x 0)))
theorem A32.xo16 {s : List Int} (h : A32 s) (z x : Nat) : A32 (xo16 s z x) := h.set z (rot16_bd (xr_bd (h.wd z) (h.wd x)))
theorem xo16_eq {s : List Int} {x y : Nat} {X Y : Int} (h1 : s.getD x 0 = X) (h2 : s.getD y 0 = Y) : xo16 s x y = s.set x (rot16 (xr X Y)) := by unfold xo16; rw [h1, h2]
def xo12 (s : List Int) (z x : Nat) : List Int := s.set z (rot12 (xr (s.getD z 0) (s.getD x 0)))
theorem A32.xo12 {s : List Int} (h : A32 s) (z x : Nat) : A32 (xo12 s z x) := h.set z (rot12_bd (xr_bd (h.wd z) (h.wd x)))
theorem xo12_eq {s : List Int} {x y : Nat} {X Y : Int} (h1 : s.getD x 0 = X) (h2 : s.getD y 0 = Y) : xo12 s x y = s.set x (rot12 (xr X Y)) := by unfold xo12; rw [h1, h2]
def xo8 (s : List Int) (z x : Nat) : List Int := s.set z (rot8 (xr (s.getD z 0) (s.getD x 0)))
theorem A32.xo8 {s : List Int} (h : A32 s) (z x : Nat) : A32 (xo8 s z x) := h.set z (rot8_bd (xr_bd (h.wd z) (h.wd x)))
theorem xo8_eq {s : List Int} {x y : Nat} {X Y : Int} (h1 : s.getD x 0 = X) (h2 : s.getD y 0 = Y) : xo8 s x y = s.set x (rot8 (xr X Y)) := by unfold xo8; rw [h1, h2]
def xo7 (s : List Int) (z x : Nat) : List Int := s.set z (rot7 (xr (s.getD z 0) (s.getD x 0)))
theorem A32.xo7 {s : List Int} (h : A32 s) (z x : Nat) : A32 (xo7 s z x) := h.set z (rot7_bd (xr_bd (h.wd z) (h.wd x)))
theorem xo7_eq {s : List Int} {x y : Nat} {X Y : Int} (h1 : s.getD x 0 = X) (h2 : s.getD y 0 = Y) : xo7 s x y = s.set x (rot7 (xr X Y)) := by unfold xo7; rw [h1, h2]
/-- A quarter of a round. -/
def qr (s : List Int) (a b c d : Nat) : List Int := (xo7 (ad (xo8 (ad (xo12 (ad (xo16 (ad s a b) d a) c d) b c) a b) d a) c d) b c)
theorem A32.qr {s : List Int} (h : A32 s) (a b c d : Nat) : A32 (qr s a b c d) := ((((((((h.ad a b).xo16 d a).ad c d).xo12 b c).ad a b).xo8 d a).ad c d).xo7 b c)
set_option maxHeartbeats 4000000 in
theorem quarter_calls (g : Nat) (T : TypeId) (s0 : List Int) (a b c d : Nat) (ha : a < 16) (hb : b < 16) (hc : c < 16) (hd : d < 16) (hs0 : A32 s0) (w : World) (hr : IRow w g T .u32 s0) :
    Calls Try.prog 22 #[.pointer (some ⟨g, 0, none⟩), .int .i64 (a : Int), .int .i64 (b : Int), .int .i64 (c : Int), .int .i64 (d : Int)] w fun e w' => e = .returned (.tuple #[]) ∧ IRow w' g T .u32 (qr s0 a b c d) ∧ w.grownBy w' (some g) := by
  have R16 := Lib.hid (fun x hx w => rotl16_calls x hx w)
  have R12 := Lib.hid (fun x hx w => rotl12_calls x hx w)
  have R8 := Lib.hid (fun x hx w => rotl8_calls x hx w)
  have R7 := Lib.hid (fun x hx w => rotl7_calls x hx w)
  have ia : ((a : Int) < 16) := by omega
  have ib : ((b : Int) < 16) := by omega
  have ic : ((c : Int) < 16) := by omega
  have id : ((d : Int) < 16) := by omega
  have hg : w.grownBy w (some g) := grown_refl _ _
  have hq : Hid (qr s0 a b c d = (xo7 (ad (xo8 (ad (xo12 (ad (xo16 (ad s0 a b) d a) c d) b c) a b) d a) c d) b c)) := Lib.hid rfl
  go_enter Try.func22, Try.ntmps22
  -- step 0
  obtain ⟨Z, hZ⟩ : ∃ Z, (s0).getD a 0 = Z := ⟨_, rfl⟩
  obtain ⟨X, hX⟩ : ∃ X, (s0).getD b 0 = X := ⟨_, rfl⟩
  have wZ : W32 Z := hZ ▸ hs0.wd a
  have wX : W32 X := hX ▸ hs0.wd b
  have cz := hr.cell (k := a) (by rw [hs0.len]; omega)
  have cx := hr.cell (k := b) (by rw [hs0.len]; omega)
  have fz := hr.frozen a
  rw [hZ] at cz
  rw [hX] at cx
  have lZ : a < (s0).length := by rw [hs0.len]; omega
  have HZ := Lib.hid hZ
  have HX := Lib.hid hX
  clear hZ hX
  have z1 := wZ.1
  have z2 := wZ.2
  have x1 := wX.1
  have x2 := wX.2
  go_wp2_with fail
  refine wp_region_plan 13 13 [(.h, 0), (.h, 1), (.h, 2), (.h, 3), (.h, 4), (.h, 5), (.h, 6), (.h, 7), (.h, 8), (.h, 9), (.h, 10), (.h, 11), (.h, 12), (.w, 13)] mixed (by kernel_rfl) (fun dst _ _ _ _ h => by cases dst <;> exact h) ?_
  intro Q' K' hQ' hK'
  simp only [planOps_cons, planOps_nil, getD_zero, getD_succ]
  repeat (first
    | ((first | (with_reducible refine seqC_skip_h rfl ?_) | (with_reducible refine seqC_skip_p rfl ?_) | (with_reducible refine seqC_skip_e rfl ?_) | (with_reducible refine seqC_skip_w rfl ?_) | (with_reducible refine seqC_skip_b hB rfl ?_)); (try simp only [Act.put, List.setIfInBounds_toArray, List.set_cons_zero, List.set_cons_succ]))
    | (refine seqC_h (fun K hK => ?_); go_simp; (try go_bits); refine hK _ ?_; clear hK K)
    | (refine seqC_p (v := ?_) rfl (fun w' => ?_) ?_; rotate_left; go_simp; (try go_bits); (with_reducible rfl); (try simp only [Act.put, List.setIfInBounds_toArray, List.set_cons_zero, List.set_cons_succ]))
    | (refine seqC_e (v := ?_) rfl (fun w' hb' => ?_) ?_; rotate_left; (have hb1 := (bcell hb').1; clear hb'; go_simp; (try go_bits)); (with_reducible rfl); (try simp only [Act.put, List.setIfInBounds_toArray, List.set_cons_zero, List.set_cons_succ]))
    | (refine seqC_w (fun K hK => ?_); go_simp; (try go_bits); refine hK _ _ ?_; clear hK K))
  refine seqC_nil (hK' _ _ ?_)
  clear hK' K' hQ' Q'
  go_wp2_with fail
  refine wp_abs (fun W => IRow W g T .u32 (ad (s0) a b) ∧ w.grownBy W (some g)) ⟨?_, ?_⟩ ?_
  · rw [ad_eq HZ.out HX.out]
    exact IRow.drew (IRow.set hr _ _)
  · exact grown_drew (grown_set hg _ _)
  clear hr hg
  rintro w10 ⟨hr, hg⟩
  replace hs0 : A32 ((ad s0 a b)) := A32.ad hs0 _ _
  clear HZ HX wZ wX cz cx fz lZ z1 z2 x1 x2
  -- step 1
  obtain ⟨Z, hZ⟩ : ∃ Z, ((ad s0 a b)).getD d 0 = Z := ⟨_, rfl⟩
  obtain ⟨X, hX⟩ : ∃ X, ((ad s0 a b)).getD a 0 = X := ⟨_, rfl⟩
  have wZ : W32 Z := hZ ▸ hs0.wd d
  have wX : W32 X := hX ▸ hs0.wd a
  have cz := hr.cell (k := d) (by rw [hs0.len]; omega)
  have cx := hr.cell (k := a) (by rw [hs0.len]; omega)
  have fz := hr.frozen d
  rw [hZ] at cz
  rw [hX] at cx
  have lZ : d < ((ad s0 a b)).length := by rw [hs0.len]; omega
  have HZ := Lib.hid hZ
  have HX := Lib.hid hX
  clear hZ hX
  have z1 := wZ.1
  have z2 := wZ.2
  have x1 := wX.1
  have x2 := wX.2
  have hxx : bits BinOp.xor IntKind.u32 Z X = xr Z X := xr32 wZ wX
  refine wp_region_plan 13 13 [(.p, 0), (.p, 1), (.h, 2), (.h, 3), (.h, 4), (.h, 5), (.h, 6), (.h, 7), (.h, 8), (.h, 9), (.h, 10), (.h, 11), (.h, 12), (.p, 14), (.w, 13), (.p, 15), (.w, 16)] mixed (by kernel_rfl) (fun dst _ _ _ _ h => by cases dst <;> exact h) ?_
  intro Q' K' hQ' hK'
  simp only [planOps_cons, planOps_nil, getD_zero, getD_succ]
  repeat (first
    | (refine seqC_w (fun K hK => ?_); go_simp; go_at_call 35; (with_reducible refine (R16.out _ (xr_bd wZ wX) _).mono ?_); rintro e w1 ⟨rfl, hb1⟩; have hr1 := IRow.belowS (IRow.drew hr) hb1; have cz1 := hr1.cell (k := d) lZ; rw [HZ.out] at cz1; have fz1 := hr1.frozen d; have hg1 := grown_below (grown_drew hg) hb1; refine hK _ _ ?_; clear hb1 hK K)
    | ((first | (with_reducible refine seqC_skip_h rfl ?_) | (with_reducible refine seqC_skip_p rfl ?_) | (with_reducible refine seqC_skip_e rfl ?_) | (with_reducible refine seqC_skip_w rfl ?_) | (with_reducible refine seqC_skip_b hB rfl ?_)); (try simp only [Act.put, List.setIfInBounds_toArray, List.set_cons_zero, List.set_cons_succ]))
    | (refine seqC_h (fun K hK => ?_); go_simp; (try go_bits); refine hK _ ?_; clear hK K)
    | (refine seqC_p (v := ?_) rfl (fun w' => ?_) ?_; rotate_left; go_simp; (try go_bits); (with_reducible rfl); (try simp only [Act.put, List.setIfInBounds_toArray, List.set_cons_zero, List.set_cons_succ]))
    | (refine seqC_e (v := ?_) rfl (fun w' hb' => ?_) ?_; rotate_left; (have hb1 := (bcell hb').1; clear hb'; go_simp; (try go_bits)); (with_reducible rfl); (try simp only [Act.put, List.setIfInBounds_toArray, List.set_cons_zero, List.set_cons_succ]))
    | (refine seqC_w (fun K hK => ?_); go_simp; (try go_bits); refine hK _ _ ?_; clear hK K))
  refine seqC_nil (hK' _ _ ?_)
  clear hK' K' hQ' Q'
  go_wp2_with fail
  refine wp_abs (fun W => IRow W g T .u32 (xo16 ((ad s0 a b)) d a) ∧ w.grownBy W (some g)) ⟨?_, ?_⟩ ?_
  · rw [xo16_eq HZ.out HX.out]
    exact IRow.set hr1 _ _
  · exact grown_set hg1 _ _
  clear hr hg
  rintro w11 ⟨hr, hg⟩
  replace hs0 : A32 ((xo16 (ad s0 a b) d a)) := A32.xo16 hs0 _ _
  clear HZ HX wZ wX cz cx fz lZ z1 z2 x1 x2
  -- step 2
  obtain ⟨Z, hZ⟩ : ∃ Z, ((xo16 (ad s0 a b) d a)).getD c 0 = Z := ⟨_, rfl⟩
  obtain ⟨X, hX⟩ : ∃ X, ((xo16 (ad s0 a b) d a)).getD d 0 = X := ⟨_, rfl⟩
  have wZ : W32 Z := hZ ▸ hs0.wd c
  have wX : W32 X := hX ▸ hs0.wd d
  have cz := hr.cell (k := c) (by rw [hs0.len]; omega)
  have cx := hr.cell (k := d) (by rw [hs0.len]; omega)
  have fz := hr.frozen c
  rw [hZ] at cz
  rw [hX] at cx
  have lZ : c < ((xo16 (ad s0 a b) d a)).length := by rw [hs0.len]; omega
  have HZ := Lib.hid hZ
  have HX := Lib.hid hX
  clear hZ hX
  have z1 := wZ.1
  have z2 := wZ.2
  have x1 := wX.1
  have x2 := wX.2
  refine wp_region_plan 13 13 [(.h, 0), (.h, 1), (.h, 2), (.h, 3), (.h, 4), (.h, 5), (.h, 6), (.h, 7), (.h, 8), (.h, 9), (.h, 10), (.h, 11), (.h, 12), (.w, 13)] mixed (by kernel_rfl) (fun dst _ _ _ _ h => by cases dst <;> exact h) ?_
  intro Q' K' hQ' hK'
  simp only [planOps_cons, planOps_nil, getD_zero, getD_succ]
  repeat (first
    | ((first | (with_reducible refine seqC_skip_h rfl ?_) | (with_reducible refine seqC_skip_p rfl ?_) | (with_reducible refine seqC_skip_e rfl ?_) | (with_reducible refine seqC_skip_w rfl ?_) | (with_reducible refine seqC_skip_b hB rfl ?_)); (try simp only [Act.put, List.setIfInBounds_toArray, List.set_cons_zero, List.set_cons_succ]))
    | (refine seqC_h (fun K hK => ?_); go_simp; (try go_bits); refine hK _ ?_; clear hK K)
    | (refine seqC_p (v := ?_) rfl (fun w' => ?_) ?_; rotate_left; go_simp; (try go_bits); (with_reducible rfl); (try simp only [Act.put, List.setIfInBounds_toArray, List.set_cons_zero, List.set_cons_succ]))
    | (refine seqC_e (v := ?_) rfl (fun w' hb' => ?_) ?_; rotate_left; (have hb1 := (bcell hb').1; clear hb'; go_simp; (try go_bits)); (with_reducible rfl); (try simp only [Act.put, List.setIfInBounds_toArray, List.set_cons_zero, List.set_cons_succ]))
    | (refine seqC_w (fun K hK => ?_); go_simp; (try go_bits); refine hK _ _ ?_; clear hK K))
  refine seqC_nil (hK' _ _ ?_)
  clear hK' K' hQ' Q'
  go_wp2_with fail
  refine wp_abs (fun W => IRow W g T .u32 (ad ((xo16 (ad s0 a b) d a)) c d) ∧ w.grownBy W (some g)) ⟨?_, ?_⟩ ?_
  · rw [ad_eq HZ.out HX.out]
    exact IRow.drew (IRow.set hr _ _)
  · exact grown_drew (grown_set hg _ _)
  clear hr hg
  rintro w12 ⟨hr, hg⟩
  replace hs0 : A32 ((ad (xo16 (ad s0 a b) d a) c d)) := A32.ad hs0 _ _
  clear HZ HX wZ wX cz cx fz lZ z1 z2 x1 x2
  -- step 3
  obtain ⟨Z, hZ⟩ : ∃ Z, ((ad (xo16 (ad s0 a b) d a) c d)).getD b 0 = Z := ⟨_, rfl⟩
  obtain ⟨X, hX⟩ : ∃ X, ((ad (xo16 (ad s0 a b) d a) c d)).getD c 0 = X := ⟨_, rfl⟩
  have wZ : W32 Z := hZ ▸ hs0.wd b
  have wX : W32 X := hX ▸ hs0.wd c
  have cz := hr.cell (k := b) (by rw [hs0.len]; omega)
  have cx := hr.cell (k := c) (by rw [hs0.len]; omega)
  have fz := hr.frozen b
  rw [hZ] at cz
  rw [hX] at cx
  have lZ : b < ((ad (xo16 (ad s0 a b) d a) c d)).length := by rw [hs0.len]; omega
  have HZ := Lib.hid hZ
  have HX := Lib.hid hX
  clear hZ hX
  have z1 := wZ.1
  have z2 := wZ.2
  have x1 := wX.1
  have x2 := wX.2
  have hxx : bits BinOp.xor IntKind.u32 Z X = xr Z X := xr32 wZ wX
  refine wp_region_plan 13 13 [(.p, 0), (.p, 1), (.h, 2), (.h, 3), (.h, 4), (.h, 5), (.h, 6), (.h, 7), (.h, 8), (.h, 9), (.h, 10), (.h, 11), (.h, 12), (.p, 14), (.w, 13), (.p, 15), (.w, 16)] mixed (by kernel_rfl) (fun dst _ _ _ _ h => by cases dst <;> exact h) ?_
  intro Q' K' hQ' hK'
  simp only [planOps_cons, planOps_nil, getD_zero, getD_succ]
  repeat (first
    | (refine seqC_w (fun K hK => ?_); go_simp; go_at_call 35; (with_reducible refine (R12.out _ (xr_bd wZ wX) _).mono ?_); rintro e w1 ⟨rfl, hb1⟩; have hr1 := IRow.belowS (IRow.drew hr) hb1; have cz1 := hr1.cell (k := b) lZ; rw [HZ.out] at cz1; have fz1 := hr1.frozen b; have hg1 := grown_below (grown_drew hg) hb1; refine hK _ _ ?_; clear hb1 hK K)
    | ((first | (with_reducible refine seqC_skip_h rfl ?_) | (with_reducible refine seqC_skip_p rfl ?_) | (with_reducible refine seqC_skip_e rfl ?_) | (with_reducible refine seqC_skip_w rfl ?_) | (with_reducible refine seqC_skip_b hB rfl ?_)); (try simp only [Act.put, List.setIfInBounds_toArray, List.set_cons_zero, List.set_cons_succ]))
    | (refine seqC_h (fun K hK => ?_); go_simp; (try go_bits); refine hK _ ?_; clear hK K)
    | (refine seqC_p (v := ?_) rfl (fun w' => ?_) ?_; rotate_left; go_simp; (try go_bits); (with_reducible rfl); (try simp only [Act.put, List.setIfInBounds_toArray, List.set_cons_zero, List.set_cons_succ]))
    | (refine seqC_e (v := ?_) rfl (fun w' hb' => ?_) ?_; rotate_left; (have hb1 := (bcell hb').1; clear hb'; go_simp; (try go_bits)); (with_reducible rfl); (try simp only [Act.put, List.setIfInBounds_toArray, List.set_cons_zero, List.set_cons_succ]))
    | (refine seqC_w (fun K hK => ?_); go_simp; (try go_bits); refine hK _ _ ?_; clear hK K))
  refine seqC_nil (hK' _ _ ?_)
  clear hK' K' hQ' Q'
  go_wp2_with fail
  refine wp_abs (fun W => IRow W g T .u32 (xo12 ((ad (xo16 (ad s0 a b) d a) c d)) b c) ∧ w.grownBy W (some g)) ⟨?_, ?_⟩ ?_
  · rw [xo12_eq HZ.out HX.out]
    exact IRow.set hr1 _ _
  · exact grown_set hg1 _ _
  clear hr hg
  rintro w13 ⟨hr, hg⟩
  replace hs0 : A32 ((xo12 (ad (xo16 (ad s0 a b) d a) c d) b c)) := A32.xo12 hs0 _ _
  clear HZ HX wZ wX cz cx fz lZ z1 z2 x1 x2
  -- step 4
  obtain ⟨Z, hZ⟩ : ∃ Z, ((xo12 (ad (xo16 (ad s0 a b) d a) c d) b c)).getD a 0 = Z := ⟨_, rfl⟩
  obtain ⟨X, hX⟩ : ∃ X, ((xo12 (ad (xo16 (ad s0 a b) d a) c d) b c)).getD b 0 = X := ⟨_, rfl⟩
  have wZ : W32 Z := hZ ▸ hs0.wd a
  have wX : W32 X := hX ▸ hs0.wd b
  have cz := hr.cell (k := a) (by rw [hs0.len]; omega)
  have cx := hr.cell (k := b) (by rw [hs0.len]; omega)
  have fz := hr.frozen a
  rw [hZ] at cz
  rw [hX] at cx
  have lZ : a < ((xo12 (ad (xo16 (ad s0 a b) d a) c d) b c)).length := by rw [hs0.len]; omega
  have HZ := Lib.hid hZ
  have HX := Lib.hid hX
  clear hZ hX
  have z1 := wZ.1
  have z2 := wZ.2
  have x1 := wX.1
  have x2 := wX.2
  refine wp_region_plan 13 13 [(.h, 0), (.h, 1), (.h, 2), (.h, 3), (.h, 4), (.h, 5), (.h, 6), (.h, 7), (.h, 8), (.h, 9), (.h, 10), (.h, 11), (.h, 12), (.w, 13)] mixed (by kernel_rfl) (fun dst _ _ _ _ h => by cases dst <;> exact h) ?_
  intro Q' K' hQ' hK'
  simp only [planOps_cons, planOps_nil, getD_zero, getD_succ]
  repeat (first
    | ((first | (with_reducible refine seqC_skip_h rfl ?_) | (with_reducible refine seqC_skip_p rfl ?_) | (with_reducible refine seqC_skip_e rfl ?_) | (with_reducible refine seqC_skip_w rfl ?_) | (with_reducible refine seqC_skip_b hB rfl ?_)); (try simp only [Act.put, List.setIfInBounds_toArray, List.set_cons_zero, List.set_cons_succ]))
    | (refine seqC_h (fun K hK => ?_); go_simp; (try go_bits); refine hK _ ?_; clear hK K)
    | (refine seqC_p (v := ?_) rfl (fun w' => ?_) ?_; rotate_left; go_simp; (try go_bits); (with_reducible rfl); (try simp only [Act.put, List.setIfInBounds_toArray, List.set_cons_zero, List.set_cons_succ]))
    | (refine seqC_e (v := ?_) rfl (fun w' hb' => ?_) ?_; rotate_left; (have hb1 := (bcell hb').1; clear hb'; go_simp; (try go_bits)); (with_reducible rfl); (try simp only [Act.put, List.setIfInBounds_toArray, List.set_cons_zero, List.set_cons_succ]))
    | (refine seqC_w (fun K hK => ?_); go_simp; (try go_bits); refine hK _ _ ?_; clear hK K))
  refine seqC_nil (hK' _ _ ?_)
  clear hK' K' hQ' Q'
  go_wp2_with fail
  refine wp_abs (fun W => IRow W g T .u32 (ad ((xo12 (ad (xo16 (ad s0 a b) d a) c d) b c)) a b) ∧ w.grownBy W (some g)) ⟨?_, ?_⟩ ?_
  · rw [ad_eq HZ.out HX.out]
    exact IRow.drew (IRow.set hr _ _)
  · exact grown_drew (grown_set hg _ _)
  clear hr hg
  rintro w14 ⟨hr, hg⟩
  replace hs0 : A32 ((ad (xo12 (ad (xo16 (ad s0 a b) d a) c d) b c) a b)) := A32.ad hs0 _ _
  clear HZ HX wZ wX cz cx fz lZ z1 z2 x1 x2
  -- step 5
  obtain ⟨Z, hZ⟩ : ∃ Z, ((ad (xo12 (ad (xo16 (ad s0 a b) d a) c d) b c) a b)).getD d 0 = Z := ⟨_, rfl⟩
  obtain ⟨X, hX⟩ : ∃ X, ((ad (xo12 (ad (xo16 (ad s0 a b) d a) c d) b c) a b)).getD a 0 = X := ⟨_, rfl⟩
  have wZ : W32 Z := hZ ▸ hs0.wd d
  have wX : W32 X := hX ▸ hs0.wd a
  have cz := hr.cell (k := d) (by rw [hs0.len]; omega)
  have cx := hr.cell (k := a) (by rw [hs0.len]; omega)
  have fz := hr.frozen d
  rw [hZ] at cz
  rw [hX] at cx
  have lZ : d < ((ad (xo12 (ad (xo16 (ad s0 a b) d a) c d) b c) a b)).length := by rw [hs0.len]; omega
  have HZ := Lib.hid hZ
  have HX := Lib.hid hX
  clear hZ hX
  have z1 := wZ.1
  have z2 := wZ.2
  have x1 := wX.1
  have x2 := wX.2
  have hxx : bits BinOp.xor IntKind.u32 Z X = xr Z X := xr32 wZ wX
  refine wp_region_plan 13 13 [(.p, 0), (.p, 1), (.h, 2), (.h, 3), (.h, 4), (.h, 5), (.h, 6), (.h, 7), (.h, 8), (.h, 9), (.h, 10), (.h, 11), (.h, 12), (.p, 14), (.w, 13), (.p, 15), (.w, 16)] mixed (by kernel_rfl) (fun dst _ _ _ _ h => by cases dst <;> exact h) ?_
  intro Q' K' hQ' hK'
  simp only [planOps_cons, planOps_nil, getD_zero, getD_succ]
  repeat (first
    | (refine seqC_w (fun K hK => ?_); go_simp; go_at_call 35; (with_reducible refine (R8.out _ (xr_bd wZ wX) _).mono ?_); rintro e w1 ⟨rfl, hb1⟩; have hr1 := IRow.belowS (IRow.drew hr) hb1; have cz1 := hr1.cell (k := d) lZ; rw [HZ.out] at cz1; have fz1 := hr1.frozen d; have hg1 := grown_below (grown_drew hg) hb1; refine hK _ _ ?_; clear hb1 hK K)
    | ((first | (with_reducible refine seqC_skip_h rfl ?_) | (with_reducible refine seqC_skip_p rfl ?_) | (with_reducible refine seqC_skip_e rfl ?_) | (with_reducible refine seqC_skip_w rfl ?_) | (with_reducible refine seqC_skip_b hB rfl ?_)); (try simp only [Act.put, List.setIfInBounds_toArray, List.set_cons_zero, List.set_cons_succ]))
    | (refine seqC_h (fun K hK => ?_); go_simp; (try go_bits); refine hK _ ?_; clear hK K)
    | (refine seqC_p (v := ?_) rfl (fun w' => ?_) ?_; rotate_left; go_simp; (try go_bits); (with_reducible rfl); (try simp only [Act.put, List.setIfInBounds_toArray, List.set_cons_zero, List.set_cons_succ]))
    | (refine seqC_e (v := ?_) rfl (fun w' hb' => ?_) ?_; rotate_left; (have hb1 := (bcell hb').1; clear hb'; go_simp; (try go_bits)); (with_reducible rfl); (try simp only [Act.put, List.setIfInBounds_toArray, List.set_cons_zero, List.set_cons_succ]))
    | (refine seqC_w (fun K hK => ?_); go_simp; (try go_bits); refine hK _ _ ?_; clear hK K))
  refine seqC_nil (hK' _ _ ?_)
  clear hK' K' hQ' Q'
  go_wp2_with fail
  refine wp_abs (fun W => IRow W g T .u32 (xo8 ((ad (xo12 (ad (xo16 (ad s0 a b) d a) c d) b c) a b)) d a) ∧ w.grownBy W (some g)) ⟨?_, ?_⟩ ?_
  · rw [xo8_eq HZ.out HX.out]
    exact IRow.set hr1 _ _
  · exact grown_set hg1 _ _
  clear hr hg
  rintro w15 ⟨hr, hg⟩
  replace hs0 : A32 ((xo8 (ad (xo12 (ad (xo16 (ad s0 a b) d a) c d) b c) a b) d a)) := A32.xo8 hs0 _ _
  clear HZ HX wZ wX cz cx fz lZ z1 z2 x1 x2
  -- step 6
  obtain ⟨Z, hZ⟩ : ∃ Z, ((xo8 (ad (xo12 (ad (xo16 (ad s0 a b) d a) c d) b c) a b) d a)).getD c 0 = Z := ⟨_, rfl⟩
  obtain ⟨X, hX⟩ : ∃ X, ((xo8 (ad (xo12 (ad (xo16 (ad s0 a b) d a) c d) b c) a b) d a)).getD d 0 = X := ⟨_, rfl⟩
  have wZ : W32 Z := hZ ▸ hs0.wd c
  have wX : W32 X := hX ▸ hs0.wd d
  have cz := hr.cell (k := c) (by rw [hs0.len]; omega)
  have cx := hr.cell (k := d) (by rw [hs0.len]; omega)
  have fz := hr.frozen c
  rw [hZ] at cz
  rw [hX] at cx
  have lZ : c < ((xo8 (ad (xo12 (ad (xo16 (ad s0 a b) d a) c d) b c) a b) d a)).length := by rw [hs0.len]; omega
  have HZ := Lib.hid hZ
  have HX := Lib.hid hX
  clear hZ hX
  have z1 := wZ.1
  have z2 := wZ.2
  have x1 := wX.1
  have x2 := wX.2
  refine wp_region_plan 13 13 [(.h, 0), (.h, 1), (.h, 2), (.h, 3), (.h, 4), (.h, 5), (.h, 6), (.h, 7), (.h, 8), (.h, 9), (.h, 10), (.h, 11), (.h, 12), (.w, 13)] mixed (by kernel_rfl) (fun dst _ _ _ _ h => by cases dst <;> exact h) ?_
  intro Q' K' hQ' hK'
  simp only [planOps_cons, planOps_nil, getD_zero, getD_succ]
  repeat (first
    | ((first | (with_reducible refine seqC_skip_h rfl ?_) | (with_reducible refine seqC_skip_p rfl ?_) | (with_reducible refine seqC_skip_e rfl ?_) | (with_reducible refine seqC_skip_w rfl ?_) | (with_reducible refine seqC_skip_b hB rfl ?_)); (try simp only [Act.put, List.setIfInBounds_toArray, List.set_cons_zero, List.set_cons_succ]))
    | (refine seqC_h (fun K hK => ?_); go_simp; (try go_bits); refine hK _ ?_; clear hK K)
    | (refine seqC_p (v := ?_) rfl (fun w' => ?_) ?_; rotate_left; go_simp; (try go_bits); (with_reducible rfl); (try simp only [Act.put, List.setIfInBounds_toArray, List.set_cons_zero, List.set_cons_succ]))
    | (refine seqC_e (v := ?_) rfl (fun w' hb' => ?_) ?_; rotate_left; (have hb1 := (bcell hb').1; clear hb'; go_simp; (try go_bits)); (with_reducible rfl); (try simp only [Act.put, List.setIfInBounds_toArray, List.set_cons_zero, List.set_cons_succ]))
    | (refine seqC_w (fun K hK => ?_); go_simp; (try go_bits); refine hK _ _ ?_; clear hK K))
  refine seqC_nil (hK' _ _ ?_)
  clear hK' K' hQ' Q'
  go_wp2_with fail
  refine wp_abs (fun W => IRow W g T .u32 (ad ((xo8 (ad (xo12 (ad (xo16 (ad s0 a b) d a) c d) b c) a b) d a)) c d) ∧ w.grownBy W (some g)) ⟨?_, ?_⟩ ?_
  · rw [ad_eq HZ.out HX.out]
    exact IRow.drew (IRow.set hr _ _)
  · exact grown_drew (grown_set hg _ _)
  clear hr hg
  rintro w16 ⟨hr, hg⟩
  replace hs0 : A32 ((ad (xo8 (ad (xo12 (ad (xo16 (ad s0 a b) d a) c d) b c) a b) d a) c d)) := A32.ad hs0 _ _
  clear HZ HX wZ wX cz cx fz lZ z1 z2 x1 x2
  -- step 7
  obtain ⟨Z, hZ⟩ : ∃ Z, ((ad (xo8 (ad (xo12 (ad (xo16 (ad s0 a b) d a) c d) b c) a b) d a) c d)).getD b 0 = Z := ⟨_, rfl⟩
  obtain ⟨X, hX⟩ : ∃ X, ((ad (xo8 (ad (xo12 (ad (xo16 (ad s0 a b) d a) c d) b c) a b) d a) c d)).getD c 0 = X := ⟨_, rfl⟩
  have wZ : W32 Z := hZ ▸ hs0.wd b
  have wX : W32 X := hX ▸ hs0.wd c
  have cz := hr.cell (k := b) (by rw [hs0.len]; omega)
  have cx := hr.cell (k := c) (by rw [hs0.len]; omega)
  have fz := hr.frozen b
  rw [hZ] at cz
  rw [hX] at cx
  have lZ : b < ((ad (xo8 (ad (xo12 (ad (xo16 (ad s0 a b) d a) c d) b c) a b) d a) c d)).length := by rw [hs0.len]; omega
  have HZ := Lib.hid hZ
  have HX := Lib.hid hX
  clear hZ hX
  have z1 := wZ.1
  have z2 := wZ.2
  have x1 := wX.1
  have x2 := wX.2
  have hxx : bits BinOp.xor IntKind.u32 Z X = xr Z X := xr32 wZ wX
  refine wp_region_plan 13 13 [(.p, 0), (.p, 1), (.h, 2), (.h, 3), (.h, 4), (.h, 5), (.h, 6), (.h, 7), (.h, 8), (.h, 9), (.h, 10), (.h, 11), (.h, 12), (.p, 14), (.w, 13), (.p, 15), (.w, 16)] mixed (by kernel_rfl) (fun dst _ _ _ _ h => by cases dst <;> exact h) ?_
  intro Q' K' hQ' hK'
  simp only [planOps_cons, planOps_nil, getD_zero, getD_succ]
  repeat (first
    | (refine seqC_w (fun K hK => ?_); go_simp; go_at_call 35; (with_reducible refine (R7.out _ (xr_bd wZ wX) _).mono ?_); rintro e w1 ⟨rfl, hb1⟩; have hr1 := IRow.belowS (IRow.drew hr) hb1; have cz1 := hr1.cell (k := b) lZ; rw [HZ.out] at cz1; have fz1 := hr1.frozen b; have hg1 := grown_below (grown_drew hg) hb1; refine hK _ _ ?_; clear hb1 hK K)
    | ((first | (with_reducible refine seqC_skip_h rfl ?_) | (with_reducible refine seqC_skip_p rfl ?_) | (with_reducible refine seqC_skip_e rfl ?_) | (with_reducible refine seqC_skip_w rfl ?_) | (with_reducible refine seqC_skip_b hB rfl ?_)); (try simp only [Act.put, List.setIfInBounds_toArray, List.set_cons_zero, List.set_cons_succ]))
    | (refine seqC_h (fun K hK => ?_); go_simp; (try go_bits); refine hK _ ?_; clear hK K)
    | (refine seqC_p (v := ?_) rfl (fun w' => ?_) ?_; rotate_left; go_simp; (try go_bits); (with_reducible rfl); (try simp only [Act.put, List.setIfInBounds_toArray, List.set_cons_zero, List.set_cons_succ]))
    | (refine seqC_e (v := ?_) rfl (fun w' hb' => ?_) ?_; rotate_left; (have hb1 := (bcell hb').1; clear hb'; go_simp; (try go_bits)); (with_reducible rfl); (try simp only [Act.put, List.setIfInBounds_toArray, List.set_cons_zero, List.set_cons_succ]))
    | (refine seqC_w (fun K hK => ?_); go_simp; (try go_bits); refine hK _ _ ?_; clear hK K))
  refine seqC_nil (hK' _ _ ?_)
  clear hK' K' hQ' Q'
  go_wp2_with fail
  refine bodyPost_end (results_none rfl _ _ _) rfl ⟨rfl, ?_, grown_set hg1 _ _⟩
  rw [hq.out, xo7_eq HZ.out HX.out]
  exact IRow.set hr1 _ _
end Go.Proofs.Ytddiamocnkffjaa
