import Derived.Test.YtddiamocnkffjaaT
namespace Go.Proofs.Ytddiamocnkffjaa
open Go.RowKit Go.Proofs Go.Proofs.MyK
set_option linter.unusedSimpArgs false
set_option linter.unusedVariables false
theorem ks_shift (kz nz : Nat → Int) (c : Int) (k j : Nat) : ks kz nz ((c + (k : Int)) % 4294967296) j = ks kz nz c (64 * k + j) := by
  unfold ks
  rw [show (64 * k + j) / 64 = k + j / 64 by omega, show (64 * k + j) % 64 = j % 64 by omega, show ((c + (k : Int)) % 4294967296 + ((j / 64 : Nat) : Int)) % 4294967296 = (c + ((k + j / 64 : Nat) : Int)) % 4294967296 by omega]
theorem xt_shift (kz nz : Nat → Int) (c : Int) {l : List Int} {k : Nat} (hk : 64 * k ≤ l.length) : xt (ks kz nz ((c + (k : Int)) % 4294967296)) (l.drop (64 * k)) (l.drop (64 * k)).length = (xt (ks kz nz c) l l.length).drop (64 * k) := by
  have hl : (l.drop (64 * k)).length = l.length - 64 * k := by simp
  refine List.ext_getElem (by rw [xt_len]; simp [xt_len]) fun i h1 h2 => ?_
  rw [xt_len] at h1
  have h3 := xt_getD (ks kz nz ((c + (k : Int)) % 4294967296)) (l.drop (64 * k)) (l.drop (64 * k)).length i
  have h4 := xt_getD (ks kz nz c) l l.length (64 * k + i)
  rw [if_pos ⟨h1, h1⟩, ks_shift] at h3
  rw [if_pos ⟨by omega, by omega⟩] at h4
  have h5 : (l.drop (64 * k)).getD i 0 = l.getD (64 * k + i) 0 := by simp [List.getD_eq_getElem?_getD, List.getElem?_drop]
  rw [h5, ← h4] at h3
  have h6 : i < (xt (ks kz nz ((c + (k : Int)) % 4294967296)) (l.drop (64 * k)) (l.drop (64 * k)).length).length := by rw [xt_len]; exact h1
  have h7 : 64 * k + i < (xt (ks kz nz c) l l.length).length := by rw [xt_len]; omega
  rw [List.getD_eq_getElem?_getD, List.getD_eq_getElem?_getD, List.getElem?_eq_getElem h6, List.getElem?_eq_getElem h7] at h3
  simpa using h3
theorem at_mod (a : Int) : ∃ k : Nat, (wrap64 (a.tmod 9 + 9)).tmod 9 = (k : Int) ∧ k ≤ 8 := by
  have h1 : -9 < a.tmod 9 ∧ a.tmod 9 < 9 := by
    have h2 := Int.tmod_lt_of_pos a (b := 9) (by omega)
    have h3 := Int.lt_tmod_of_pos a (b := 9) (by omega)
    omega
  generalize a.tmod 9 = r at h1
  have h4 : wrap64 (r + 9) = r + 9 := by unfold wrap64; omega
  rw [h4, Int.tmod_eq_emod_of_nonneg (by omega)]
  exact ⟨((r + 9) % 9).toNat, by omega, by omega⟩
theorem part_any {w : World} {a : Option Addr} {n c : Nat} {l : List Int} (h : Bs w (.slice a n c) l) (hn : l.length = n) (i : Nat) (hi : i ≤ n) (ix : Int) (hx : ix = (i : Int)) :
    ∃ v, (∀ W, (Instr.slice 22 (.slice a n c) (some (.int .i64 ix)) none none).run Try.prog W = .ok v W) ∧ Bs w v (l.drop i) := by
  subst hx
  refine ⟨.slice (if c = i then a else a.map (·.add (i * 1))) (n - i) (c - i), fun W => ?_, ?_⟩
  · have hs : (sizeOf (Try.prog.elem 22)).run Try.prog W = .ok 1 W := by kernel_rfl
    rw [run_slice_l (P := Try.prog) W 22 a n c (by kernel_rfl) .i64 _ (by omega) (by omega), hs]
    simp [sliced]
  · have h1 := h.part i (n - i) (by omega)
    rw [List.take_of_length_le (by simp; omega)] at h1
    exact h1
set_option maxHeartbeats 4000000 in
theorem stream_any (v0 v1 v2 v3 : Value) (l0 l1 l2 l3 : List Int) (c at0 : Int) (hcc : W32 c) (w : World) (h0 : Bs w v0 l0) (h1 : Bs w v1 l1) (h2 : Bs w v2 l2) (h3 : Bs w v3 l3) :
    Calls Try.prog 5 #[.agg #[v0, v1, v2, v3], .int .u32 c, .int .i64 at0] w fun e w' => e = .returned (.bool true) ∧ Below w.heap.size w w' := by
  obtain ⟨a0, c0, rfl, hc0, hx0⟩ := h0.form
  obtain ⟨a1, c1, rfl, hc1, hx1⟩ := h1.form
  obtain ⟨a2, c2, rfl, _, _⟩ := h2.form
  obtain ⟨a3, c3, rfl, _, _⟩ := h3.form
  have SC := sound_calls
  have FC := fit_calls a0 a1 a2 a3 l0.length l1.length l2.length l3.length c0 c1 c2 c3
  by_cases hfit : l0.length = 32 ∧ l1.length = 12 ∧ l2.length ≤ 300 ∧ l3.length ≤ 500
  · have hd : decide (l0.length = 32 ∧ l1.length = 12 ∧ l2.length ≤ 300 ∧ l3.length ≤ 500) = true := decide_eq_true hfit
    rw [hd] at FC
    obtain ⟨e0, e1, e2, e3⟩ := hfit
    clear hd
    obtain ⟨bk, ok, rfl, aK⟩ := h0.at (by omega)
    obtain ⟨bn, on, rfl, aN⟩ := h1.at (by omega)
    rw [e0] at FC aK hc0 ⊢
    rw [e1] at FC aN hc1 ⊢
    have kb := fun k => getD_bd' h0.1 k
    have nb := fun k => getD_bd' h1.1 k
    clear h0 h1
    generalize hkz : (fun k => l0.getD k 0) = kz at aK
    generalize hnz : (fun k => l1.getD k 0) = nz at aN
    have kb' : ∀ k, 0 ≤ kz k ∧ kz k < 256 := fun k => by rw [← hkz]; exact kb k
    have nb' : ∀ k, 0 ≤ nz k ∧ nz k < 256 := fun k => by rw [← hnz]; exact nb k
    clear hkz hnz kb nb e0 e1
    have hbx : Below w.heap.size w (w.alloc (Obj.cells #[.slice (some ⟨bk, ok, none⟩) 32 c0, .slice (some ⟨bn, on, none⟩) 12 c1, .slice a2 l2.length c2, .slice a3 l3.length c3] 24)) := bel_alloc (Below.refl _ _) _
    have hv : VRow (w.alloc (Obj.cells #[.slice (some ⟨bk, ok, none⟩) 32 c0, .slice (some ⟨bn, on, none⟩) 12 c1, .slice a2 l2.length c2, .slice a3 l3.length c3] 24)) w.heap.size 24 [.slice (some ⟨bk, ok, none⟩) 32 c0, .slice (some ⟨bn, on, none⟩) 12 c1, .slice a2 l2.length c2, .slice a3 l3.length c3] := VRow.new' rfl rfl
    go_enter Try.func5, Try.ntmps5
    go_wp2_with fail
    refine (SC _).mono ?_
    rintro e w1 ⟨rfl, hb1⟩
    replace hv := hv.belowS hb1
    replace hbx := below_S hbx hb1
    have d0 : _ = some (Value.slice (some ⟨bk, ok, none⟩) 32 c0) := hv.cell (k := 0) rfl
    have d1 : _ = some (Value.slice (some ⟨bn, on, none⟩) 12 c1) := hv.cell (k := 1) rfl
    have d2 : _ = some (Value.slice a2 l2.length c2) := hv.cell (k := 2) rfl
    have d3 : _ = some (Value.slice a3 l3.length c3) := hv.cell (k := 3) rfl
    clear hb1
    go_wp2_with fail
    refine (FC _).mono ?_
    rintro e w2 ⟨rfl, hb1⟩
    replace hv := hv.belowS hb1
    replace hbx := below_S hbx hb1
    clear d0 d1 d2 d3 hb1 SC FC
    have d0 : _ = some (Value.slice (some ⟨bk, ok, none⟩) 32 c0) := hv.cell (k := 0) rfl
    have d1 : _ = some (Value.slice (some ⟨bn, on, none⟩) 12 c1) := hv.cell (k := 1) rfl
    have d2 : _ = some (Value.slice a2 l2.length c2) := hv.cell (k := 2) rfl
    have d3 : _ = some (Value.slice a3 l3.length c3) := hv.cell (k := 3) rfl
    have aK2 := aK.below hbx aK.lt
    have aN2 := aN.below hbx aN.lt
    have C1 := xor_calls bk ok c0 bn on c1 kz nz c w2 kb' nb' hcc hc0 hc1 aK2 aN2 _ l3 (Bs_below h3 hbx) (by omega)
    go_wp2_with fail
    refine C1.mono ?_
    clear C1 aK2 aN2 d0 d1 d2 d3
    rintro e w3 ⟨⟨v', rfl, hown⟩, hb1⟩
    replace hv := hv.belowS hb1
    replace hbx := below_S hbx hb1
    have d0 : _ = some (Value.slice (some ⟨bk, ok, none⟩) 32 c0) := hv.cell (k := 0) rfl
    have d1 : _ = some (Value.slice (some ⟨bn, on, none⟩) 12 c1) := hv.cell (k := 1) rfl
    have d2 : _ = some (Value.slice a2 l2.length c2) := hv.cell (k := 2) rfl
    have d3 : _ = some (Value.slice a3 l3.length c3) := hv.cell (k := 3) rfl
    have hXb := xt_bd (ks_bd kz nz c) h3.1 l3.length
    have hXl : Unit → (xt (ks kz nz c) l3 l3.length).length = l3.length := fun _ => xt_len _ _ _
    have hXX : Unit → xt (ks kz nz c) (xt (ks kz nz c) l3 l3.length) l3.length = l3 := fun _ => xt_xt (ks kz nz c) h3.1
    have hsh : Unit → ∀ k, 64 * k ≤ l3.length → xt (ks kz nz ((c + (k : Int)) % 4294967296)) (l3.drop (64 * k)) (l3.drop (64 * k)).length = (xt (ks kz nz c) l3 l3.length).drop (64 * k) := fun _ k hk => xt_shift kz nz c hk
    generalize xt (ks kz nz c) l3 l3.length = X1 at hown hXb hXl hXX hsh
    rw [← hXl ()] at hown
    have hBX := Bs.owns hown hXb
    obtain ⟨a5, c5, rfl, _, _⟩ := hBX.form
    clear hown hb1
    have aK3 := aK.below hbx aK.lt
    have aN3 := aN.below hbx aN.lt
    have C2 := xor_calls bk ok c0 bn on c1 kz nz c w3 kb' nb' hcc hc0 hc1 aK3 aN3 _ X1 hBX (by rw [hXl ()]; omega)
    rw [hXl ()] at C2 hBX ⊢
    rw [hXX ()] at C2
    go_wp2_with fail
    refine C2.mono ?_
    clear C2 aK3 aN3 d0 d1 d2 d3
    rintro e w4 ⟨⟨v7, rfl, hown7⟩, hb1⟩
    replace hv := hv.belowS hb1
    replace hbx := below_S hbx hb1
    have d0 : _ = some (Value.slice (some ⟨bk, ok, none⟩) 32 c0) := hv.cell (k := 0) rfl
    have d1 : _ = some (Value.slice (some ⟨bn, on, none⟩) 12 c1) := hv.cell (k := 1) rfl
    have d2 : _ = some (Value.slice a2 l2.length c2) := hv.cell (k := 2) rfl
    have d3 : _ = some (Value.slice a3 l3.length c3) := hv.cell (k := 3) rfl
    have hBX4 := hBX.belowS hb1
    have hB7 := Bs.owns hown7 h3.1
    clear hown7 hb1 hBX hXX
    obtain ⟨kT, hkT, hkT8⟩ : ∃ kT : Nat, (wrap64 (at0.tmod 9 + 9)).tmod 9 = (kT : Int) ∧ kT ≤ 8 := at_mod at0
    by_cases hk64 : 64 * kT ≤ l3.length
    · have hk64' : 64 * (kT : Int) ≤ (l3.length : Int) := by omega
      obtain ⟨v5, s5, hB5⟩ := part_any (Bs_below h3 hbx) rfl (64 * kT) (by omega) (64 * (kT : Int)) (by omega)
      obtain ⟨v8, s8, hB8⟩ := part_any (l := X1) hBX4 (hXl ()) (64 * kT) (by omega) (64 * (kT : Int)) (by omega)
      have hsK := hsh () kT (by omega)
      have hck : W32 ((c + (kT : Int)) % 4294967296) := by unfold W32; omega
      have C3 := xor_calls bk ok c0 bn on c1 kz nz ((c + (kT : Int)) % 4294967296) w4.drew kb' nb' hck hc0 hc1 (aK.below hbx.drew aK.lt) (aN.below hbx.drew aN.lt) v5 (l3.drop (64 * kT)) hB5.drew (by simp; omega)
      rw [hsK] at C3
      have hdl : Unit → (l3.drop (64 * kT)).length = (X1.drop (64 * kT)).length := fun _ => by simp [hXl ()]
      have hsKu := hsK
      clear hsK hsKu hsh
      go_wp2_with fail
      refine wp_region_plan 13 13 [(.h, 0), (.h, 1), (.h, 2), (.h, 3), (.h, 4), (.h, 5), (.h, 6), (.h, 7), (.h, 8), (.h, 9), (.h, 10), (.h, 11), (.h, 12), (.w, 13), (.p, 14), (.p, 15), (.p, 16), (.p, 17), (.p, 18)] mixed (by kernel_rfl) (fun dst _ _ _ _ h => by cases dst <;> exact h) ?_
      intro Q' K' hQ' hK'
      simp only [planOps_cons, planOps_nil, getD_zero, getD_succ]
      repeat (first
        | (refine seqC_w (fun K hK => ?_); go_simp; go_at_call 11; (with_reducible refine C3.mono ?_); clear C3; rintro e w5 ⟨⟨v12, rfl, hown12⟩, hb1⟩; refine hK _ _ ?_; clear hK K)
        | ((first | (with_reducible refine seqC_skip_h rfl ?_) | (with_reducible refine seqC_skip_p rfl ?_) | (with_reducible refine seqC_skip_e rfl ?_) | (with_reducible refine seqC_skip_w rfl ?_) | (with_reducible refine seqC_skip_b hB rfl ?_)); (try simp only [Act.put, List.setIfInBounds_toArray, List.set_cons_zero, List.set_cons_succ]))
        | (refine seqC_h (fun K hK => ?_); go_simp; (try go_bits); refine hK _ ?_; clear hK K)
        | (refine seqC_p (v := ?_) rfl (fun w' => ?_) ?_; rotate_left; go_simp; (try go_bits); (with_reducible rfl); (try simp only [Act.put, List.setIfInBounds_toArray, List.set_cons_zero, List.set_cons_succ]))
        | (refine seqC_e (v := ?_) rfl (fun w' hb' => ?_) ?_; rotate_left; (have hb1 := (bcell hb').1; clear hb'; go_simp; (try go_bits)); (with_reducible rfl); (try simp only [Act.put, List.setIfInBounds_toArray, List.set_cons_zero, List.set_cons_succ]))
        | (refine seqC_w (fun K hK => ?_); go_simp; (try go_bits); refine hK _ _ ?_; clear hK K))
      refine seqC_nil (hK' _ _ ?_)
      clear hK' K' hQ' Q'
      rw [hdl ()] at hown12
      have hB12 := Bs.owns hown12 (fun x hx => hXb x (List.mem_of_mem_drop hx))
      have hbd := below_S (bel_drew (Below.refl _ _)) hb1
      replace hv := hv.belowS hbd
      replace hbx := below_S hbx hbd
      have hB7' := hB7.belowS hbd
      have hB8' := hB8.belowS hbd
      clear hown12 hb1 hbd d0 d1 d2 d3 hB5 hdl s5 hB7 hB8 hBX4
      have d3 : _ = some (Value.slice a3 l3.length c3) := hv.cell (k := 3) rfl
      have hs7 := fun W => run_string_bs (P := Try.prog) W 22 5 Try.underlying22 Try.underlying5 v7 l3
      have r7 := run_string_bs (P := Try.prog) w5.drew 22 5 Try.underlying22 Try.underlying5 v7 l3 hB7'.drew 9 Try.underlying9
      have r3 := run_string_bs (P := Try.prog) w5.drew 22 5 Try.underlying22 Try.underlying5 _ l3 (Bs_below h3 hbx).drew 9 Try.underlying9
      have r12 := run_string_bs (P := Try.prog) w5.drew 22 5 Try.underlying22 Try.underlying5 v12 _ hB12.drew 9 Try.underlying9
      have r8 := run_string_bs (P := Try.prog) w5.drew 22 5 Try.underlying22 Try.underlying5 v8 _ hB8'.drew 9 Try.underlying9
      clear hs7 hB7' hB8' hB12
      go_wp2_with fail
      refine wp_region_sd mixed (by kernel_rfl) ?_
      repeat (refine wpStill_step (fun K hK => ?_); go_simp; (try go_bits); refine hK _ ?_; clear hK K)
      refine wpStill_nil ?_
      go_wp2_with fail
      go_ret
      exact ⟨by simp, bel_drew hbx⟩
    · obtain ⟨kq, hkq⟩ : ∃ kq, l3.length / 64 = kq := ⟨_, rfl⟩
      have hkq' : (l3.length : Int) / 64 = (kq : Int) := by omega
      have hkq2 : 64 * kq ≤ l3.length := by omega
      obtain ⟨v5, s5, hB5⟩ := part_any (Bs_below h3 hbx) rfl (64 * kq) (by omega) (64 * (kq : Int)) (by omega)
      obtain ⟨v8, s8, hB8⟩ := part_any (l := X1) hBX4 (hXl ()) (64 * kq) (by omega) (64 * (kq : Int)) (by omega)
      have hsK := hsh () kq (by omega)
      have hck : W32 ((c + (kq : Int)) % 4294967296) := by unfold W32; omega
      have C3 := xor_calls bk ok c0 bn on c1 kz nz ((c + (kq : Int)) % 4294967296) w4.drew kb' nb' hck hc0 hc1 (aK.below hbx.drew aK.lt) (aN.below hbx.drew aN.lt) v5 (l3.drop (64 * kq)) hB5.drew (by simp; omega)
      rw [hsK] at C3
      have hdl : Unit → (l3.drop (64 * kq)).length = (X1.drop (64 * kq)).length := fun _ => by simp [hXl ()]
      have hsKu := hsK
      clear hsK hsKu hsh
      go_wp2_with fail
      refine wp_region_plan 13 13 [(.h, 0), (.h, 1), (.h, 2), (.h, 3), (.h, 4), (.h, 5), (.h, 6), (.h, 7), (.h, 8), (.h, 9), (.h, 10), (.h, 11), (.h, 12), (.w, 13), (.p, 14), (.p, 15), (.p, 16), (.p, 17), (.p, 18)] mixed (by kernel_rfl) (fun dst _ _ _ _ h => by cases dst <;> exact h) ?_
      intro Q' K' hQ' hK'
      simp only [planOps_cons, planOps_nil, getD_zero, getD_succ]
      repeat (first
        | (refine seqC_w (fun K hK => ?_); go_simp; go_at_call 11; (with_reducible refine C3.mono ?_); clear C3; rintro e w5 ⟨⟨v12, rfl, hown12⟩, hb1⟩; refine hK _ _ ?_; clear hK K)
        | ((first | (with_reducible refine seqC_skip_h rfl ?_) | (with_reducible refine seqC_skip_p rfl ?_) | (with_reducible refine seqC_skip_e rfl ?_) | (with_reducible refine seqC_skip_w rfl ?_) | (with_reducible refine seqC_skip_b hB rfl ?_)); (try simp only [Act.put, List.setIfInBounds_toArray, List.set_cons_zero, List.set_cons_succ]))
        | (refine seqC_h (fun K hK => ?_); go_simp; (try go_bits); refine hK _ ?_; clear hK K)
        | (refine seqC_p (v := ?_) rfl (fun w' => ?_) ?_; rotate_left; go_simp; (try go_bits); (with_reducible rfl); (try simp only [Act.put, List.setIfInBounds_toArray, List.set_cons_zero, List.set_cons_succ]))
        | (refine seqC_e (v := ?_) rfl (fun w' hb' => ?_) ?_; rotate_left; (have hb1 := (bcell hb').1; clear hb'; go_simp; (try go_bits)); (with_reducible rfl); (try simp only [Act.put, List.setIfInBounds_toArray, List.set_cons_zero, List.set_cons_succ]))
        | (refine seqC_w (fun K hK => ?_); go_simp; (try go_bits); refine hK _ _ ?_; clear hK K))
      refine seqC_nil (hK' _ _ ?_)
      clear hK' K' hQ' Q'
      rw [hdl ()] at hown12
      have hB12 := Bs.owns hown12 (fun x hx => hXb x (List.mem_of_mem_drop hx))
      have hbd := below_S (bel_drew (Below.refl _ _)) hb1
      replace hv := hv.belowS hbd
      replace hbx := below_S hbx hbd
      have hB7' := hB7.belowS hbd
      have hB8' := hB8.belowS hbd
      clear hown12 hb1 hbd d0 d1 d2 d3 hB5 hdl s5 hB7 hB8 hBX4
      have d3 : _ = some (Value.slice a3 l3.length c3) := hv.cell (k := 3) rfl
      have hs7 := fun W => run_string_bs (P := Try.prog) W 22 5 Try.underlying22 Try.underlying5 v7 l3
      have r7 := run_string_bs (P := Try.prog) w5.drew 22 5 Try.underlying22 Try.underlying5 v7 l3 hB7'.drew 9 Try.underlying9
      have r3 := run_string_bs (P := Try.prog) w5.drew 22 5 Try.underlying22 Try.underlying5 _ l3 (Bs_below h3 hbx).drew 9 Try.underlying9
      have r12 := run_string_bs (P := Try.prog) w5.drew 22 5 Try.underlying22 Try.underlying5 v12 _ hB12.drew 9 Try.underlying9
      have r8 := run_string_bs (P := Try.prog) w5.drew 22 5 Try.underlying22 Try.underlying5 v8 _ hB8'.drew 9 Try.underlying9
      clear hs7 hB7' hB8' hB12
      go_wp2_with fail
      refine wp_region_sd mixed (by kernel_rfl) ?_
      repeat (refine wpStill_step (fun K hK => ?_); go_simp; (try go_bits); refine hK _ ?_; clear hK K)
      refine wpStill_nil ?_
      go_wp2_with fail
      go_ret
      exact ⟨by simp, bel_drew hbx⟩
  · have hd : decide (l0.length = 32 ∧ l1.length = 12 ∧ l2.length ≤ 300 ∧ l3.length ≤ 500) = false := decide_eq_false hfit
    rw [hd] at FC
    clear hd hfit
    have hbx : Below w.heap.size w (w.alloc (Obj.cells #[.slice a0 l0.length c0, .slice a1 l1.length c1, .slice a2 l2.length c2, .slice a3 l3.length c3] 24)) := bel_alloc (Below.refl _ _) _
    have hv : VRow (w.alloc (Obj.cells #[.slice a0 l0.length c0, .slice a1 l1.length c1, .slice a2 l2.length c2, .slice a3 l3.length c3] 24)) w.heap.size 24 [.slice a0 l0.length c0, .slice a1 l1.length c1, .slice a2 l2.length c2, .slice a3 l3.length c3] := VRow.new' rfl rfl
    go_enter Try.func5, Try.ntmps5
    go_wp2_with fail
    refine (SC _).mono ?_
    rintro e w1 ⟨rfl, hb1⟩
    replace hv := hv.belowS hb1
    replace hbx := below_S hbx hb1
    have d0 : _ = some (Value.slice a0 l0.length c0) := hv.cell (k := 0) rfl
    have d1 : _ = some (Value.slice a1 l1.length c1) := hv.cell (k := 1) rfl
    have d2 : _ = some (Value.slice a2 l2.length c2) := hv.cell (k := 2) rfl
    have d3 : _ = some (Value.slice a3 l3.length c3) := hv.cell (k := 3) rfl
    clear hb1
    go_wp2_with fail
    refine (FC _).mono ?_
    rintro e w2 ⟨rfl, hb1⟩
    replace hbx := below_S hbx hb1
    go_wp2_with fail
    go_ret
    exact ⟨rfl, hbx⟩
end Go.Proofs.Ytddiamocnkffjaa
