import Derived.Test.YtddiamocnkffjaaU
import Derived.Test.YtddiamocnkffjaaR3
namespace Go.Proofs.Ytddiamocnkffjaa
open Go.RowKit Go.Proofs Go.Proofs.MyK
set_option linter.unusedSimpArgs false
set_option linter.unusedVariables false
theorem bs64 {w : World} {g c : Nat} {l : List Int} (h : At w g 0 64 (fun k => l.getD k 0)) (hl : l.length = 64) (hb : ∀ x ∈ l, 0 ≤ x ∧ x < 256) (h1 : 64 ≤ c) (h2 : c ≤ maxLen) : Bs w (.slice (some ⟨g, 0, none⟩) 64 c) l := by
  have h3 := Bs.ofAt (c := c) (l := l) (w := w) (b := g) (off := 0) (by rw [hl]; exact h) hb (by omega) h2
  rw [hl] at h3
  exact h3
theorem slice64all (b : Nat) (W : World) : (Instr.sliceAt 27 (.pointer (some ⟨b, 0, none⟩)) none none none).run Try.prog W = .ok (.slice (some ⟨b, 0, none⟩) 64 64) W := by
  have ht : Try.prog.underlying 27 = some (.array (Try.prog.arrayLen 27) (Try.prog.elem 27)) := by kernel_rfl
  have hl : Try.prog.arrayLen 27 = 64 := by kernel_rfl
  have hs : (sizeOf (Try.prog.elem 27)).run Try.prog W = .ok 1 W := by kernel_rfl
  rw [run_sliceAt_array_all W 27 _ ht, hs, hl]
  simp [slicedAt, Addr.add]
set_option maxRecDepth 4000 in
set_option maxHeartbeats 8000000 in
theorem blocks_fit (v0 v1 v2 v3 : Value) (l0 l1 l2 l3 : List Int) (c : Int) (hcc : W32 c) (w : World) (h0 : Bs w v0 l0) (h1 : Bs w v1 l1) (h2 : Bs w v2 l2) (h3 : Bs w v3 l3) (hm3 : l3.length ≤ 140737488355328) (e0 : l0.length = 32) (e1 : l1.length = 12) (hfit : l2.length ≤ 300 ∧ l3.length ≤ 500) :
    Calls Try.prog 3 #[.agg #[v0, v1, v2, v3], .int .u32 c] w fun e w' => e = .returned (.bool true) ∧ Below w.heap.size w w' := by
  obtain ⟨a0, c0, rfl, hc0, hx0⟩ := h0.form
  obtain ⟨a1, c1, rfl, hc1, hx1⟩ := h1.form
  obtain ⟨a2, c2, rfl, _, _⟩ := h2.form
  obtain ⟨a3, c3, rfl, _, _⟩ := h3.form
  have SC := sound_calls
  have FC := fit_calls a0 a1 a2 a3 l0.length l1.length l2.length l3.length c0 c1 c2 c3
  have hd : decide (l0.length = 32 ∧ l1.length = 12 ∧ l2.length ≤ 300 ∧ l3.length ≤ 500) = true := decide_eq_true ⟨e0, e1, hfit.1, hfit.2⟩
  rw [hd] at FC
  clear hd
  obtain ⟨bk, ok, rfl, aK⟩ := h0.at (by omega)
  obtain ⟨bn, on, rfl, aN⟩ := h1.at (by omega)
  rw [e0] at FC aK hc0 ⊢
  rw [e1] at FC aN hc1 ⊢
  have kb := fun k => getD_bd' h0.1 k
  have nb := fun k => getD_bd' h1.1 k
  clear h0 h1
  generalize hkz : (fun k => l0.getD k 0) = kz at aK
  generalize hnz : (fun k => l1.getD k 0) = nz at aN
  have kb' : ∀ k, 0 ≤ kz k ∧ kz k < 256 := fun k => by rw [← hkz]; exact kb k
  have nb' : ∀ k, 0 ≤ nz k ∧ nz k < 256 := fun k => by rw [← hnz]; exact nb k
  clear hkz hnz kb nb e0 e1
  have hbx : Below w.heap.size w (w.alloc (Obj.cells #[.slice (some ⟨bk, ok, none⟩) 32 c0, .slice (some ⟨bn, on, none⟩) 12 c1, .slice a2 l2.length c2, .slice a3 l3.length c3] 24)) := bel_alloc (Below.refl _ _) _
  have hv : VRow (w.alloc (Obj.cells #[.slice (some ⟨bk, ok, none⟩) 32 c0, .slice (some ⟨bn, on, none⟩) 12 c1, .slice a2 l2.length c2, .slice a3 l3.length c3] 24)) w.heap.size 24 [.slice (some ⟨bk, ok, none⟩) 32 c0, .slice (some ⟨bn, on, none⟩) 12 c1, .slice a2 l2.length c2, .slice a3 l3.length c3] := VRow.new' rfl rfl
  go_enter Try.func3, Try.ntmps3
  go_wp2_with fail
  refine (SC _).mono ?_
  rintro e w1 ⟨rfl, hb1⟩
  replace hv := hv.belowS hb1
  replace hbx := below_S hbx hb1
  clear hb1 SC
  have d0 : _ = some (Value.slice (some ⟨bk, ok, none⟩) 32 c0) := hv.cell (k := 0) rfl
  have d1 : _ = some (Value.slice (some ⟨bn, on, none⟩) 12 c1) := hv.cell (k := 1) rfl
  have d2 : _ = some (Value.slice a2 l2.length c2) := hv.cell (k := 2) rfl
  have d3 : _ = some (Value.slice a3 l3.length c3) := hv.cell (k := 3) rfl
  have C1 := block_at bk ok c0 bn on c1 kz nz c w1 kb' nb' hcc hc0 hc1 (aK.below hbx aK.lt) (aN.below hbx aN.lt)
  have hbl : Unit → (blockL kz c nz).length = 64 := fun _ => block_len _ _ _
  have hbm := block_mem kz c nz
  have RB := Lib.hid (fun (W : World) (hb : Below w.heap.size w W) => rblock_at bk ok 32 c0 bn on 12 c1 kz nz c W kb' nb' hcc (by omega) (by omega) hc0 hc1 (aK.below hb aK.lt) (aN.below hb aN.lt))
  have hgd : Unit → ∀ k, (blockL kz c nz).getD k 0 = (blockL kz c nz).getD k 0 := fun _ _ => rfl
  generalize blockL kz c nz = BL at C1 hbl hbm RB hgd
  go_wp2_with fail
  refine C1.mono ?_
  clear C1 d0 d1 d2 d3
  rintro e w2 ⟨rfl, hb1⟩
  replace hv := hv.belowS hb1
  replace hbx := below_S hbx hb1
  clear hb1
  have hnew : IRow (w2.alloc (.cells ((List.replicate 64 0).map (Value.int .u8)).toArray 27)) w2.heap.size 27 .u8 (List.replicate 64 0) := IRow.new rfl
  have hrow : IRow ((w2.alloc (.cells ((List.replicate 64 0).map (Value.int .u8)).toArray 27)).setRow w2.heap.size (BL.map (Value.int .u8)).toArray) w2.heap.size 27 .u8 BL := VRow.setRow hnew _
  have hv2 := (hv.alloc (.cells ((List.replicate 64 0).map (Value.int .u8)).toArray 27)).setRowO (g := w2.heap.size) (by have := hv.lt; omega) (BL.map (Value.int .u8)).toArray
  have hbx2 := bel_setRow (bel_alloc hbx (.cells ((List.replicate 64 0).map (Value.int .u8)).toArray 27)) hbx.size (BL.map (Value.int .u8)).toArray
  go_wp2_with (refine wpList_store_row rfl 27 _ _ rfl _ _ rfl rfl 27 _ hnew (by rw [List.size_toArray, List.length_map, hbl ()]; kernel_rfl) (by simp [hbl ()]) ?c1 ?_; (case c1 => simp [Value.oneCell']); refine wpList_abs (fun W => VRow W w.heap.size 24 [.slice (some ⟨bk, ok, none⟩) 32 c0, .slice (some ⟨bn, on, none⟩) 12 c1, .slice a2 l2.length c2, .slice a3 l3.length c3] ∧ IRow W w2.heap.size 27 .u8 BL ∧ Below w.heap.size w W) ⟨hv2, hrow, hbx2⟩ ?_; clear hv2 hrow hbx2 hnew hv hbx; rintro W3 ⟨hv, hrow, hbx⟩; have d0 : _ = some (Value.slice (some ⟨bk, ok, none⟩) 32 c0) := hv.cell (k := 0) rfl; have d1 : _ = some (Value.slice (some ⟨bn, on, none⟩) 12 c1) := hv.cell (k := 1) rfl; have d3 : _ = some (Value.slice a3 l3.length c3) := hv.cell (k := 3) rfl)
  generalize w2.heap.size = g at hrow ⊢
  have XC := xor_calls bk ok c0 bn on c1 kz nz c W3 kb' nb' hcc hc0 hc1 (aK.below hbx aK.lt) (aN.below hbx aN.lt) _ l3 (Bs_below h3 hbx) hm3
  have hXb := xt_bd (ks_bd kz nz c) h3.1 l3.length
  have hXl : Unit → (xt (ks kz nz c) l3 l3.length).length = l3.length := fun _ => xt_len _ _ _
  have RX := Lib.hid (fun (W : World) (hb : Below w.heap.size w W) => rxor_calls bk ok 32 c0 bn on 12 c1 kz nz c W kb' nb' hcc (by omega) (by omega) hc0 hc1 (aK.below hb aK.lt) (aN.below hb aN.lt) _ l3 (Bs_below h3 hb) hm3)
  generalize xt (ks kz nz c) l3 l3.length = X at XC hXb hXl RX
  refine XC.mono ?_
  clear XC d0 d1 d3
  rintro e w4 ⟨⟨v7, rfl, hown⟩, hb1⟩
  replace hv := hv.belowS hb1
  replace hrow := hrow.belowS hb1
  replace hbx := below_S hbx hb1
  rw [← hXl ()] at hown
  have hBX := Bs.owns hown hXb
  clear hown hb1
  have d0 : _ = some (Value.slice (some ⟨bk, ok, none⟩) 32 c0) := hv.cell (k := 0) rfl
  have d1 : _ = some (Value.slice (some ⟨bn, on, none⟩) 12 c1) := hv.cell (k := 1) rfl
  have d2 : _ = some (Value.slice a2 l2.length c2) := hv.cell (k := 2) rfl
  have d3 : _ = some (Value.slice a3 l3.length c3) := hv.cell (k := 3) rfl
  have s64 := slice64all g
  have hgl := hrow.lt
  have hwl := hv.lt
  have hbd : Below w.heap.size w w4.drew := bel_drew hbx
  have D0 := Lib.hid (fun (W : World) (hb : Below w4.drew.heap.size w4.drew W) => (hb.cell (p := ⟨w.heap.size, 0, none⟩) (by exact hwl)).trans d0)
  have D1 := Lib.hid (fun (W : World) (hb : Below w4.drew.heap.size w4.drew W) => (hb.cell (p := ⟨w.heap.size, 1, none⟩) (by exact hwl)).trans d1)
  have D2 := Lib.hid (fun (W : World) (hb : Below w4.drew.heap.size w4.drew W) => (hb.cell (p := ⟨w.heap.size, 2, none⟩) (by exact hwl)).trans d2)
  have D3 := Lib.hid (fun (W : World) (hb : Below w4.drew.heap.size w4.drew W) => (hb.cell (p := ⟨w.heap.size, 3, none⟩) (by exact hwl)).trans d3)
  have hBr : Bs w4.drew (.slice (some ⟨g, 0, none⟩) 64 64) BL := by
    have h1 := Bs.ofAt (c := 64) (l := BL) (At.ofRow hrow.drew (Nat.le_refl _)) hbm (by rw [hbl ()]; omega) (by unfold maxLen; omega)
    rw [hbl ()] at h1
    exact h1
  have S65 := Lib.hid (fun (W : World) (hb : Below w4.drew.heap.size w4.drew W) => run_string_bs (P := Try.prog) W 22 5 Try.underlying22 Try.underlying5 _ BL (hBr.belowS hb) 9 Try.underlying9)
  have S81 := Lib.hid (fun (W : World) (hb : Below w4.drew.heap.size w4.drew W) => run_string_bs (P := Try.prog) W 22 5 Try.underlying22 Try.underlying5 v7 X (hBX.drew.belowS hb) 9 Try.underlying9)
  go_wp2_with fail
  refine wp_region_plan2 14 38 [(.h, 0), (.h, 1), (.h, 2), (.h, 3), (.h, 4), (.h, 5), (.h, 6), (.p, 7), (.e, 8), (.h, 9), (.h, 10), (.h, 11), (.h, 12), (.h, 13), (.b, 14), (.b, 15), (.p, 16), (.p, 17), (.p, 18), (.e, 19), (.b, 20), (.p, 21), (.p, 22), (.p, 23), (.e, 24), (.p, 25), (.e, 26), (.p, 27), (.p, 28), (.e, 29), (.p, 30), (.e, 31), (.b, 32), (.b, 33), (.p, 34), (.p, 35), (.p, 36), (.p, 37)] mixed (by kernel_rfl) (fun dst _ _ _ _ h => by cases dst <;> exact h) ?_
  intro Q' K' hQ' hK'
  refine with_refl ?_
  intro hB
  simp only [planOps_cons, planOps_nil, getD_zero, getD_succ]
  repeat (first
    | (refine seqC_e (v := ?_) rfl (fun w' hb' => ?_) ?_; rotate_left; (have q0 := D0.out w' hb'; have q1 := D1.out w' hb'; have q2 := D2.out w' hb'; have q3 := D3.out w' hb'; have q5 := S65.out w' hb'; have q8 := S81.out w' hb'; clear hb'; go_simp; (try go_bits)); (with_reducible rfl); (try simp only [Act.put, List.setIfInBounds_toArray, List.set_cons_zero, List.set_cons_succ]))
    | (refine seqC_b (fun K hK => ?_); go_simp; go_at_call 12; (with_reducible refine (RB.out _ (below_S hbd hB)).mono ?_); rintro e w5 ⟨⟨gr, capr, rfl, hr1, hr2, hr3, hAt⟩, hb1⟩; have r72 := run_string_bs (P := Try.prog) w5 22 5 Try.underlying22 Try.underlying5 _ BL (bs64 hAt (hbl ()) hbm hr1 hr2) 9 Try.underlying9; refine hK _ _ (below_S hB hb1) ?_; replace hB := below_S hB hb1; clear hb1 hK K)
    | (refine seqC_b (fun K hK => ?_); go_simp; go_at_call 13; ((with_reducible refine ((FC _)).mono ?_); rintro e w1 ⟨rfl, hb1⟩; refine hK _ _ (below_S hB hb1) ?_; replace hB := below_S hB hb1; clear hb1 hK K))
    | (refine seqC_w (fun K hK => ?_); go_simp; go_at_call 13; ((with_reducible refine ((FC _)).mono ?_); rintro e w1 ⟨rfl, hb1⟩; refine hK _ _ ?_; replace hB := below_S hB hb1; clear hb1 hK K))
    | (refine seqC_b (fun K hK => ?_); go_simp; go_at_call 14; (with_reducible refine (RX.out _ (below_S hbd hB)).mono ?_); rintro e w6 ⟨⟨v9, rfl, hown9⟩, hb1⟩; rw [← hXl ()] at hown9; have r90 := run_string_bs (P := Try.prog) w6 22 5 Try.underlying22 Try.underlying5 v9 X (Bs.owns hown9 hXb) 9 Try.underlying9; refine hK _ _ (below_S hB hb1) ?_; replace hB := below_S hB hb1; clear hb1 hK K)
    | (refine seqC_b (fun K hK => ?_); go_simp; (try go_bits); refine hK _ _ hB ?_; clear hK K)
    | ((first | (with_reducible refine seqC_skip_h rfl ?_) | (with_reducible refine seqC_skip_p rfl ?_) | (with_reducible refine seqC_skip_e rfl ?_) | (with_reducible refine seqC_skip_w rfl ?_) | (with_reducible refine seqC_skip_b hB rfl ?_)); (try simp only [Act.put, List.setIfInBounds_toArray, List.set_cons_zero, List.set_cons_succ]))
    | (refine seqC_h (fun K hK => ?_); go_simp; (try go_bits); refine hK _ ?_; clear hK K)
    | (refine seqC_p (v := ?_) rfl (fun w' => ?_) ?_; rotate_left; go_simp; (try go_bits); (with_reducible rfl); (try simp only [Act.put, List.setIfInBounds_toArray, List.set_cons_zero, List.set_cons_succ]))
    | (refine seqC_e (v := ?_) rfl (fun w' hb' => ?_) ?_; rotate_left; (have hb1 := (bcell hb').1; clear hb'; go_simp; (try go_bits)); (with_reducible rfl); (try simp only [Act.put, List.setIfInBounds_toArray, List.set_cons_zero, List.set_cons_succ]))
    | (refine seqC_w (fun K hK => ?_); go_simp; (try go_bits); refine hK _ _ ?_; clear hK K))
  refine seqC_nil (hK' _ _ ?_)
  clear hK' K' hQ' Q'
  go_wp2_with fail
  go_ret
  exact ⟨by simp, below_S hbd hB⟩
set_option maxRecDepth 4000 in
set_option maxHeartbeats 8000000 in
theorem blocks_un (v0 v1 v2 v3 : Value) (l0 l1 l2 l3 : List Int) (c : Int) (hcc : W32 c) (w : World) (h0 : Bs w v0 l0) (h1 : Bs w v1 l1) (h2 : Bs w v2 l2) (h3 : Bs w v3 l3) (hm3 : l3.length ≤ 140737488355328) (e0 : l0.length = 32) (e1 : l1.length = 12) (hfit : ¬ (l2.length ≤ 300 ∧ l3.length ≤ 500)) :
    Calls Try.prog 3 #[.agg #[v0, v1, v2, v3], .int .u32 c] w fun e w' => e = .returned (.bool true) ∧ Below w.heap.size w w' := by
  obtain ⟨a0, c0, rfl, hc0, hx0⟩ := h0.form
  obtain ⟨a1, c1, rfl, hc1, hx1⟩ := h1.form
  obtain ⟨a2, c2, rfl, _, _⟩ := h2.form
  obtain ⟨a3, c3, rfl, _, _⟩ := h3.form
  have SC := sound_calls
  have FC := fit_calls a0 a1 a2 a3 l0.length l1.length l2.length l3.length c0 c1 c2 c3
  have hd : decide (l0.length = 32 ∧ l1.length = 12 ∧ l2.length ≤ 300 ∧ l3.length ≤ 500) = false := decide_eq_false (fun h => hfit h.2.2)
  rw [hd] at FC
  clear hd
  obtain ⟨bk, ok, rfl, aK⟩ := h0.at (by omega)
  obtain ⟨bn, on, rfl, aN⟩ := h1.at (by omega)
  rw [e0] at FC aK hc0 ⊢
  rw [e1] at FC aN hc1 ⊢
  have kb := fun k => getD_bd' h0.1 k
  have nb := fun k => getD_bd' h1.1 k
  clear h0 h1
  generalize hkz : (fun k => l0.getD k 0) = kz at aK
  generalize hnz : (fun k => l1.getD k 0) = nz at aN
  have kb' : ∀ k, 0 ≤ kz k ∧ kz k < 256 := fun k => by rw [← hkz]; exact kb k
  have nb' : ∀ k, 0 ≤ nz k ∧ nz k < 256 := fun k => by rw [← hnz]; exact nb k
  clear hkz hnz kb nb e0 e1
  have hbx : Below w.heap.size w (w.alloc (Obj.cells #[.slice (some ⟨bk, ok, none⟩) 32 c0, .slice (some ⟨bn, on, none⟩) 12 c1, .slice a2 l2.length c2, .slice a3 l3.length c3] 24)) := bel_alloc (Below.refl _ _) _
  have hv : VRow (w.alloc (Obj.cells #[.slice (some ⟨bk, ok, none⟩) 32 c0, .slice (some ⟨bn, on, none⟩) 12 c1, .slice a2 l2.length c2, .slice a3 l3.length c3] 24)) w.heap.size 24 [.slice (some ⟨bk, ok, none⟩) 32 c0, .slice (some ⟨bn, on, none⟩) 12 c1, .slice a2 l2.length c2, .slice a3 l3.length c3] := VRow.new' rfl rfl
  go_enter Try.func3, Try.ntmps3
  go_wp2_with fail
  refine (SC _).mono ?_
  rintro e w1 ⟨rfl, hb1⟩
  replace hv := hv.belowS hb1
  replace hbx := below_S hbx hb1
  clear hb1 SC
  have d0 : _ = some (Value.slice (some ⟨bk, ok, none⟩) 32 c0) := hv.cell (k := 0) rfl
  have d1 : _ = some (Value.slice (some ⟨bn, on, none⟩) 12 c1) := hv.cell (k := 1) rfl
  have d2 : _ = some (Value.slice a2 l2.length c2) := hv.cell (k := 2) rfl
  have d3 : _ = some (Value.slice a3 l3.length c3) := hv.cell (k := 3) rfl
  have C1 := block_at bk ok c0 bn on c1 kz nz c w1 kb' nb' hcc hc0 hc1 (aK.below hbx aK.lt) (aN.below hbx aN.lt)
  have hbl : Unit → (blockL kz c nz).length = 64 := fun _ => block_len _ _ _
  have hbm := block_mem kz c nz
  have RB := Lib.hid (fun (W : World) (hb : Below w.heap.size w W) => rblock_at bk ok 32 c0 bn on 12 c1 kz nz c W kb' nb' hcc (by omega) (by omega) hc0 hc1 (aK.below hb aK.lt) (aN.below hb aN.lt))
  have hgd : Unit → ∀ k, (blockL kz c nz).getD k 0 = (blockL kz c nz).getD k 0 := fun _ _ => rfl
  generalize blockL kz c nz = BL at C1 hbl hbm RB hgd
  go_wp2_with fail
  refine C1.mono ?_
  clear C1 d0 d1 d2 d3
  rintro e w2 ⟨rfl, hb1⟩
  replace hv := hv.belowS hb1
  replace hbx := below_S hbx hb1
  clear hb1
  have hnew : IRow (w2.alloc (.cells ((List.replicate 64 0).map (Value.int .u8)).toArray 27)) w2.heap.size 27 .u8 (List.replicate 64 0) := IRow.new rfl
  have hrow : IRow ((w2.alloc (.cells ((List.replicate 64 0).map (Value.int .u8)).toArray 27)).setRow w2.heap.size (BL.map (Value.int .u8)).toArray) w2.heap.size 27 .u8 BL := VRow.setRow hnew _
  have hv2 := (hv.alloc (.cells ((List.replicate 64 0).map (Value.int .u8)).toArray 27)).setRowO (g := w2.heap.size) (by have := hv.lt; omega) (BL.map (Value.int .u8)).toArray
  have hbx2 := bel_setRow (bel_alloc hbx (.cells ((List.replicate 64 0).map (Value.int .u8)).toArray 27)) hbx.size (BL.map (Value.int .u8)).toArray
  go_wp2_with (refine wpList_store_row rfl 27 _ _ rfl _ _ rfl rfl 27 _ hnew (by rw [List.size_toArray, List.length_map, hbl ()]; kernel_rfl) (by simp [hbl ()]) ?c1 ?_; (case c1 => simp [Value.oneCell']); refine wpList_abs (fun W => VRow W w.heap.size 24 [.slice (some ⟨bk, ok, none⟩) 32 c0, .slice (some ⟨bn, on, none⟩) 12 c1, .slice a2 l2.length c2, .slice a3 l3.length c3] ∧ IRow W w2.heap.size 27 .u8 BL ∧ Below w.heap.size w W) ⟨hv2, hrow, hbx2⟩ ?_; clear hv2 hrow hbx2 hnew hv hbx; rintro W3 ⟨hv, hrow, hbx⟩; have d0 : _ = some (Value.slice (some ⟨bk, ok, none⟩) 32 c0) := hv.cell (k := 0) rfl; have d1 : _ = some (Value.slice (some ⟨bn, on, none⟩) 12 c1) := hv.cell (k := 1) rfl; have d3 : _ = some (Value.slice a3 l3.length c3) := hv.cell (k := 3) rfl)
  generalize w2.heap.size = g at hrow ⊢
  have XC := xor_calls bk ok c0 bn on c1 kz nz c W3 kb' nb' hcc hc0 hc1 (aK.below hbx aK.lt) (aN.below hbx aN.lt) _ l3 (Bs_below h3 hbx) hm3
  have hXb := xt_bd (ks_bd kz nz c) h3.1 l3.length
  have hXl : Unit → (xt (ks kz nz c) l3 l3.length).length = l3.length := fun _ => xt_len _ _ _
  generalize xt (ks kz nz c) l3 l3.length = X at XC hXb hXl
  refine XC.mono ?_
  clear XC d0 d1 d3
  rintro e w4 ⟨⟨v7, rfl, hown⟩, hb1⟩
  replace hv := hv.belowS hb1
  replace hrow := hrow.belowS hb1
  replace hbx := below_S hbx hb1
  rw [← hXl ()] at hown
  have hBX := Bs.owns hown hXb
  clear hown hb1
  have d0 : _ = some (Value.slice (some ⟨bk, ok, none⟩) 32 c0) := hv.cell (k := 0) rfl
  have d1 : _ = some (Value.slice (some ⟨bn, on, none⟩) 12 c1) := hv.cell (k := 1) rfl
  have d2 : _ = some (Value.slice a2 l2.length c2) := hv.cell (k := 2) rfl
  have d3 : _ = some (Value.slice a3 l3.length c3) := hv.cell (k := 3) rfl
  have s64 := slice64all g
  have hgl := hrow.lt
  have hwl := hv.lt
  have hbd : Below w.heap.size w w4.drew := bel_drew hbx
  have D0 := Lib.hid (fun (W : World) (hb : Below w4.drew.heap.size w4.drew W) => (hb.cell (p := ⟨w.heap.size, 0, none⟩) (by exact hwl)).trans d0)
  have D1 := Lib.hid (fun (W : World) (hb : Below w4.drew.heap.size w4.drew W) => (hb.cell (p := ⟨w.heap.size, 1, none⟩) (by exact hwl)).trans d1)
  have D2 := Lib.hid (fun (W : World) (hb : Below w4.drew.heap.size w4.drew W) => (hb.cell (p := ⟨w.heap.size, 2, none⟩) (by exact hwl)).trans d2)
  have D3 := Lib.hid (fun (W : World) (hb : Below w4.drew.heap.size w4.drew W) => (hb.cell (p := ⟨w.heap.size, 3, none⟩) (by exact hwl)).trans d3)
  have hBr : Bs w4.drew (.slice (some ⟨g, 0, none⟩) 64 64) BL := by
    have h1 := Bs.ofAt (c := 64) (l := BL) (At.ofRow hrow.drew (Nat.le_refl _)) hbm (by rw [hbl ()]; omega) (by unfold maxLen; omega)
    rw [hbl ()] at h1
    exact h1
  have S65 := Lib.hid (fun (W : World) (hb : Below w4.drew.heap.size w4.drew W) => run_string_bs (P := Try.prog) W 22 5 Try.underlying22 Try.underlying5 _ BL (hBr.belowS hb) 9 Try.underlying9)
  have S81 := Lib.hid (fun (W : World) (hb : Below w4.drew.heap.size w4.drew W) => run_string_bs (P := Try.prog) W 22 5 Try.underlying22 Try.underlying5 v7 X (hBX.drew.belowS hb) 9 Try.underlying9)
  go_wp2_with fail
  refine wp_region_plan2 14 38 [(.h, 0), (.h, 1), (.h, 2), (.h, 3), (.h, 4), (.h, 5), (.h, 6), (.p, 7), (.e, 8), (.h, 9), (.h, 10), (.h, 11), (.h, 12), (.h, 13), (.b, 14), (.b, 15), (.p, 16), (.p, 17), (.p, 18), (.e, 19), (.b, 20), (.p, 21), (.p, 22), (.p, 23), (.e, 24), (.p, 25), (.e, 26), (.p, 27), (.p, 28), (.e, 29), (.p, 30), (.e, 31), (.b, 32), (.b, 33), (.p, 34), (.p, 35), (.p, 36), (.p, 37)] mixed (by kernel_rfl) (fun dst _ _ _ _ h => by cases dst <;> exact h) ?_
  intro Q' K' hQ' hK'
  refine with_refl ?_
  intro hB
  simp only [planOps_cons, planOps_nil, getD_zero, getD_succ]
  repeat (first
    | (refine seqC_e (v := ?_) rfl (fun w' hb' => ?_) ?_; rotate_left; (have q0 := D0.out w' hb'; have q1 := D1.out w' hb'; have q2 := D2.out w' hb'; have q3 := D3.out w' hb'; have q5 := S65.out w' hb'; have q8 := S81.out w' hb'; clear hb'; go_simp; (try go_bits)); (with_reducible rfl); (try simp only [Act.put, List.setIfInBounds_toArray, List.set_cons_zero, List.set_cons_succ]))
    | (refine seqC_b (fun K hK => ?_); go_simp; go_at_call 12; (with_reducible refine (RB.out _ (below_S hbd hB)).mono ?_); rintro e w5 ⟨⟨gr, capr, rfl, hr1, hr2, hr3, hAt⟩, hb1⟩; have r72 := run_string_bs (P := Try.prog) w5 22 5 Try.underlying22 Try.underlying5 _ BL (bs64 hAt (hbl ()) hbm hr1 hr2) 9 Try.underlying9; refine hK _ _ (below_S hB hb1) ?_; replace hB := below_S hB hb1; clear hb1 hK K)
    | (refine seqC_b (fun K hK => ?_); go_simp; go_at_call 13; ((with_reducible refine ((FC _)).mono ?_); rintro e w1 ⟨rfl, hb1⟩; refine hK _ _ (below_S hB hb1) ?_; replace hB := below_S hB hb1; clear hb1 hK K))
    | (refine seqC_w (fun K hK => ?_); go_simp; go_at_call 13; ((with_reducible refine ((FC _)).mono ?_); rintro e w1 ⟨rfl, hb1⟩; refine hK _ _ ?_; replace hB := below_S hB hb1; clear hb1 hK K))
    | (refine seqC_b (fun K hK => ?_); go_simp; (try go_bits); refine hK _ _ hB ?_; clear hK K)
    | ((first | (with_reducible refine seqC_skip_h rfl ?_) | (with_reducible refine seqC_skip_p rfl ?_) | (with_reducible refine seqC_skip_e rfl ?_) | (with_reducible refine seqC_skip_w rfl ?_) | (with_reducible refine seqC_skip_b hB rfl ?_)); (try simp only [Act.put, List.setIfInBounds_toArray, List.set_cons_zero, List.set_cons_succ]))
    | (refine seqC_h (fun K hK => ?_); go_simp; (try go_bits); refine hK _ ?_; clear hK K)
    | (refine seqC_p (v := ?_) rfl (fun w' => ?_) ?_; rotate_left; go_simp; (try go_bits); (with_reducible rfl); (try simp only [Act.put, List.setIfInBounds_toArray, List.set_cons_zero, List.set_cons_succ]))
    | (refine seqC_e (v := ?_) rfl (fun w' hb' => ?_) ?_; rotate_left; (have hb1 := (bcell hb').1; clear hb'; go_simp; (try go_bits)); (with_reducible rfl); (try simp only [Act.put, List.setIfInBounds_toArray, List.set_cons_zero, List.set_cons_succ]))
    | (refine seqC_w (fun K hK => ?_); go_simp; (try go_bits); refine hK _ _ ?_; clear hK K))
  refine seqC_nil (hK' _ _ ?_)
  clear hK' K' hQ' Q'
  go_wp2_with fail
  go_ret
  exact ⟨by simp, below_S hbd hB⟩
end Go.Proofs.Ytddiamocnkffjaa
