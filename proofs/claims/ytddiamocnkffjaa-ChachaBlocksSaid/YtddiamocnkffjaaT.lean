import Derived.Test.YtddiamocnkffjaaQ
namespace Go.Proofs.Ytddiamocnkffjaa
open Go.RowKit Go.Proofs Go.Proofs.MyK
set_option linter.unusedSimpArgs false
set_option linter.unusedVariables false
set_option maxHeartbeats 4000000 in
theorem fit_calls (a0 a1 a2 a3 : Option Addr) (m0 m1 m2 m3 c0 c1 c2 c3 : Nat) (w : World) :
    Calls Try.prog 13 #[.agg #[.slice a0 m0 c0, .slice a1 m1 c1, .slice a2 m2 c2, .slice a3 m3 c3]] w fun e w' => e = .returned (.bool (decide (m0 = 32 ∧ m1 = 12 ∧ m2 ≤ 300 ∧ m3 ≤ 500))) ∧ Below w.heap.size w w' := by
  have hb : Below w.heap.size w (w.alloc (Obj.cells #[.slice a0 m0 c0, .slice a1 m1 c1, .slice a2 m2 c2, .slice a3 m3 c3] 24)) := bel_alloc (Below.refl _ _) _
  by_cases h0 : m0 = 32
  · by_cases h1 : m1 = 12
    · by_cases h2 : m2 ≤ 300
      · by_cases h3 : m3 ≤ 500
        · have hd : Unit → decide (m0 = 32 ∧ m1 = 12 ∧ m2 ≤ 300 ∧ m3 ≤ 500) = true := fun _ => decide_eq_true ⟨h0, h1, h2, h3⟩
          subst h0 h1
          have i2 : (m2 : Int) ≤ 300 := by omega
          have i3 : (m3 : Int) ≤ 500 := by omega
          go_enter Try.func13, Try.ntmps13
          go_wp2_with fail
          go_ret
          exact ⟨by first | rfl | (rw [hd ()]; rfl), hb⟩
        · have hd : Unit → decide (m0 = 32 ∧ m1 = 12 ∧ m2 ≤ 300 ∧ m3 ≤ 500) = false := fun _ => decide_eq_false (fun h => h3 h.2.2.2)
          subst h0 h1
          have i2 : (m2 : Int) ≤ 300 := by omega
          have i3 : ¬ (m3 : Int) ≤ 500 := by omega
          go_enter Try.func13, Try.ntmps13
          go_wp2_with fail
          go_ret
          exact ⟨by first | rfl | (rw [hd ()]; rfl), hb⟩
      · have hd : Unit → decide (m0 = 32 ∧ m1 = 12 ∧ m2 ≤ 300 ∧ m3 ≤ 500) = false := fun _ => decide_eq_false (fun h => h2 h.2.2.1)
        subst h0 h1
        have i2 : ¬ (m2 : Int) ≤ 300 := by omega
        go_enter Try.func13, Try.ntmps13
        go_wp2_with fail
        go_ret
        exact ⟨by first | rfl | (rw [hd ()]; rfl), hb⟩
    · have hd : Unit → decide (m0 = 32 ∧ m1 = 12 ∧ m2 ≤ 300 ∧ m3 ≤ 500) = false := fun _ => decide_eq_false (fun h => h1 h.2.1)
      subst h0
      have i1 : ¬ (m1 : Int) = 12 := by omega
      go_enter Try.func13, Try.ntmps13
      go_wp2_with fail
      go_ret
      exact ⟨by first | rfl | (rw [hd ()]; rfl), hb⟩
  · have hd : Unit → decide (m0 = 32 ∧ m1 = 12 ∧ m2 ≤ 300 ∧ m3 ≤ 500) = false := fun _ => decide_eq_false (fun h => h0 h.1)
    have i0 : ¬ (m0 : Int) = 32 := by omega
    go_enter Try.func13, Try.ntmps13
    go_wp2_with fail
    go_ret
    exact ⟨by first | rfl | (rw [hd ()]; rfl), hb⟩
set_option maxHeartbeats 4000000 in
theorem back_any (v0 v1 v2 v3 : Value) (l0 l1 l2 l3 : List Int) (w : World) (h0 : Bs w v0 l0) (h1 : Bs w v1 l1) (h2 : Bs w v2 l2) (h3 : Bs w v3 l3) :
    Calls Try.prog 4 #[.agg #[v0, v1, v2, v3]] w fun e w' => e = .returned (.bool true) ∧ Below w.heap.size w w' := by
  obtain ⟨a0, c0, rfl, hc0, hx0⟩ := h0.form
  obtain ⟨a1, c1, rfl, hc1, hx1⟩ := h1.form
  obtain ⟨a2, c2, rfl, _, _⟩ := h2.form
  obtain ⟨a3, c3, rfl, _, _⟩ := h3.form
  have SC := sound_calls
  have FC := fit_calls a0 a1 a2 a3 l0.length l1.length l2.length l3.length c0 c1 c2 c3
  by_cases hfit : l0.length = 32 ∧ l1.length = 12 ∧ l2.length ≤ 300 ∧ l3.length ≤ 500
  · have hd : decide (l0.length = 32 ∧ l1.length = 12 ∧ l2.length ≤ 300 ∧ l3.length ≤ 500) = true := decide_eq_true hfit
    rw [hd] at FC
    obtain ⟨e0, e1, e2, e3⟩ := hfit
    clear hd
    obtain ⟨bk, ok, rfl, aK⟩ := h0.at (by omega)
    obtain ⟨bn, on, rfl, aN⟩ := h1.at (by omega)
    rw [e0] at FC aK hc0 ⊢
    rw [e1] at FC aN hc1 ⊢
    have kb := fun k => getD_bd' h0.1 k
    have nb := fun k => getD_bd' h1.1 k
    clear h0 h1
    generalize hkz : (fun k => l0.getD k 0) = kz at aK
    generalize hnz : (fun k => l1.getD k 0) = nz at aN
    have kb' : ∀ k, 0 ≤ kz k ∧ kz k < 256 := fun k => by rw [← hkz]; exact kb k
    have nb' : ∀ k, 0 ≤ nz k ∧ nz k < 256 := fun k => by rw [← hnz]; exact nb k
    clear hkz hnz kb nb e0 e1
    have hbx : Below w.heap.size w (w.alloc (Obj.cells #[.slice (some ⟨bk, ok, none⟩) 32 c0, .slice (some ⟨bn, on, none⟩) 12 c1, .slice a2 l2.length c2, .slice a3 l3.length c3] 24)) := bel_alloc (Below.refl _ _) _
    have hv : VRow (w.alloc (Obj.cells #[.slice (some ⟨bk, ok, none⟩) 32 c0, .slice (some ⟨bn, on, none⟩) 12 c1, .slice a2 l2.length c2, .slice a3 l3.length c3] 24)) w.heap.size 24 [.slice (some ⟨bk, ok, none⟩) 32 c0, .slice (some ⟨bn, on, none⟩) 12 c1, .slice a2 l2.length c2, .slice a3 l3.length c3] := VRow.new' rfl rfl
    go_enter Try.func4, Try.ntmps4
    go_wp2_with fail
    refine (SC _).mono ?_
    rintro e w1 ⟨rfl, hb1⟩
    replace hv := hv.belowS hb1
    replace hbx := below_S hbx hb1
    have d0 : _ = some (Value.slice (some ⟨bk, ok, none⟩) 32 c0) := hv.cell (k := 0) rfl
    have d1 : _ = some (Value.slice (some ⟨bn, on, none⟩) 12 c1) := hv.cell (k := 1) rfl
    have d2 : _ = some (Value.slice a2 l2.length c2) := hv.cell (k := 2) rfl
    have d3 : _ = some (Value.slice a3 l3.length c3) := hv.cell (k := 3) rfl
    clear hb1
    go_wp2_with fail
    refine (FC _).mono ?_
    rintro e w2 ⟨rfl, hb1⟩
    replace hv := hv.belowS hb1
    replace hbx := below_S hbx hb1
    clear d0 d1 d2 d3 hb1 SC FC
    have d0 : _ = some (Value.slice (some ⟨bk, ok, none⟩) 32 c0) := hv.cell (k := 0) rfl
    have d1 : _ = some (Value.slice (some ⟨bn, on, none⟩) 12 c1) := hv.cell (k := 1) rfl
    have d2 : _ = some (Value.slice a2 l2.length c2) := hv.cell (k := 2) rfl
    have d3 : _ = some (Value.slice a3 l3.length c3) := hv.cell (k := 3) rfl
    have aK2 := aK.below hbx aK.lt
    have aN2 := aN.below hbx aN.lt
    have C1 := seal_calls bk ok c0 bn on c1 kz nz w2 kb' nb' hc0 hc1 aK2 aN2 _ _ l2 l3 (Bs_below h2 hbx) (Bs_below h3 hbx) (by omega) (by omega)
    go_wp2_with fail
    refine C1.mono ?_
    clear C1 aK2 aN2 d0 d1 d2 d3
    rintro e w3 ⟨⟨v', rfl, hown⟩, hb1⟩
    replace hv := hv.belowS hb1
    replace hbx := below_S hbx hb1
    have d0 : _ = some (Value.slice (some ⟨bk, ok, none⟩) 32 c0) := hv.cell (k := 0) rfl
    have d1 : _ = some (Value.slice (some ⟨bn, on, none⟩) 12 c1) := hv.cell (k := 1) rfl
    have d2 : _ = some (Value.slice a2 l2.length c2) := hv.cell (k := 2) rfl
    have d3 : _ = some (Value.slice a3 l3.length c3) := hv.cell (k := 3) rfl
    have hBS := Bs.owns hown (seal_bd kz nz l2 h3.1)
    have hsl : Unit → (sealL kz nz l2 l3).length = l3.length + 16 := fun _ => seal_len kz nz l2 l3
    obtain ⟨g5, c5, rfl, hc51, hc52, _, _⟩ := own_form hown rfl (by rw [hsl ()]; omega)
    have hst := seal_take kz nz l2 l3
    have hX := xt_xt (ks kz nz 1) h3.1
    generalize xt (ks kz nz 1) l3 l3.length = X1 at hst hX
    rw [hsl ()] at hBS hc51 ⊢
    clear hown hb1
    have aK3 := aK.below hbx aK.lt
    have aN3 := aN.below hbx aN.lt
    have OC := open_calls bk ok c0 bn on c1 kz nz w3 kb' nb' hc0 hc1 aK3 aN3 _ l2 (Bs_below h2 hbx) (by omega) g5 0 (l3.length + 16) c5 l3.length (sealL kz nz l2 l3) hBS (hsl ()) rfl (by omega) hc51 hc52 true (by rw [hst.1, hst.2]; exact (decide_eq_true rfl).symm)
    rw [hst.1, hX] at OC
    clear hst hX hBS hsl
    go_wp2_with fail
    refine OC.mono ?_
    clear OC aK3 aN3 d0 d1 d2 d3
    rintro e w4 ⟨h4, hb4⟩
    obtain ⟨v7, rfl, hown7⟩ := (by first | exact h4 | simpa using h4 : ∃ v', e = Ending.returned (.tuple #[v', .int .i64 0]) ∧ w4.ownsRow w3.heap.size 5 1 v' l3.length (l3.map (Value.int .u8)))
    replace hv := hv.belowS hb4
    replace hbx := below_S hbx hb4
    have d3 : _ = some (Value.slice a3 l3.length c3) := hv.cell (k := 3) rfl
    have hBp := Bs.owns hown7 h3.1
    have hs7 := run_string_bs (P := Try.prog) w4 22 5 Try.underlying22 Try.underlying5 v7 l3 hBp 9 Try.underlying9
    have hs3 := run_string_bs (P := Try.prog) w4 22 5 Try.underlying22 Try.underlying5 _ l3 (Bs_below h3 hbx) 9 Try.underlying9
    clear h4 hown7 hBp
    go_wp2_with fail
    go_ret
    exact ⟨by simp, hbx⟩
  · have hd : decide (l0.length = 32 ∧ l1.length = 12 ∧ l2.length ≤ 300 ∧ l3.length ≤ 500) = false := decide_eq_false hfit
    rw [hd] at FC
    clear hd hfit
    have hbx : Below w.heap.size w (w.alloc (Obj.cells #[.slice a0 l0.length c0, .slice a1 l1.length c1, .slice a2 l2.length c2, .slice a3 l3.length c3] 24)) := bel_alloc (Below.refl _ _) _
    have hv : VRow (w.alloc (Obj.cells #[.slice a0 l0.length c0, .slice a1 l1.length c1, .slice a2 l2.length c2, .slice a3 l3.length c3] 24)) w.heap.size 24 [.slice a0 l0.length c0, .slice a1 l1.length c1, .slice a2 l2.length c2, .slice a3 l3.length c3] := VRow.new' rfl rfl
    go_enter Try.func4, Try.ntmps4
    go_wp2_with fail
    refine (SC _).mono ?_
    rintro e w1 ⟨rfl, hb1⟩
    replace hv := hv.belowS hb1
    replace hbx := below_S hbx hb1
    have d0 : _ = some (Value.slice a0 l0.length c0) := hv.cell (k := 0) rfl
    have d1 : _ = some (Value.slice a1 l1.length c1) := hv.cell (k := 1) rfl
    have d2 : _ = some (Value.slice a2 l2.length c2) := hv.cell (k := 2) rfl
    have d3 : _ = some (Value.slice a3 l3.length c3) := hv.cell (k := 3) rfl
    clear hb1
    go_wp2_with fail
    refine (FC _).mono ?_
    rintro e w2 ⟨rfl, hb1⟩
    replace hbx := below_S hbx hb1
    go_wp2_with fail
    go_ret
    exact ⟨rfl, hbx⟩
end Go.Proofs.Ytddiamocnkffjaa
