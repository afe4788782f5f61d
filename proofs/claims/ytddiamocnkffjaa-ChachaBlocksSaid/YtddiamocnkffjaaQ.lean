import Derived.Test.YtddiamocnkffjaaO
namespace Go.Proofs.Ytddiamocnkffjaa
open Go.RowKit Go.Proofs Go.Proofs.MyK
set_option linter.unusedSimpArgs false
set_option linter.unusedVariables false
def k0 (k : Nat) : Int := (List.replicate 32 (0 : Int)).getD k 0
def n0 (k : Nat) : Int := (List.replicate 12 (0 : Int)).getD k 0
theorem block0a : (blockL k0 0 n0).getD 0 0 = 118 := by decide +kernel
theorem block0b : (blockL k0 0 n0).getD 1 0 = 184 := by decide +kernel
theorem k0_bd (k : Nat) : 0 ≤ k0 k ∧ k0 k < 256 := rep0_bd 32 k
theorem n0_bd (k : Nat) : 0 ≤ n0 k ∧ n0 k < 256 := rep0_bd 12 k
theorem xt_getD (f : Nat → Int) (l : List Int) : ∀ k j, (xt f l k).getD j 0 = if j < k ∧ j < l.length then xr (l.getD j 0) (f j) else l.getD j 0
  | 0, j => by simp [xt]
  | k + 1, j => by
    rw [xt, getD_set, xt_len, xt_getD f l k j]
    by_cases h : k = j
    · subst h
      by_cases h2 : k < l.length
      · simp [h2]
      · simp [h2]
    · by_cases h3 : j < k
      · have h4 : j < k + 1 := by omega
        simp [h, h3, h4]
      · have h4 : ¬ j < k + 1 := by omega
        simp [h, h3, h4]
theorem xr_xr {a b : Int} (ha : 0 ≤ a) : xr (xr a b) b = a := by
  unfold xr
  simp [Nat.xor_assoc]
  omega
/-- What is turned twice is as it was. -/
theorem xt_xt (f : Nat → Int) {l : List Int} (hl : ∀ x ∈ l, 0 ≤ x ∧ x < 256) : xt f (xt f l l.length) l.length = l := by
  refine List.ext_getElem (by rw [xt_len, xt_len]) fun i h1 h2 => ?_
  have h3 := xt_getD f (xt f l l.length) l.length i
  rw [xt_len, if_pos ⟨h2, h2⟩, xt_getD f l l.length i, if_pos ⟨h2, h2⟩, xr_xr (getD_bd' hl i).1] at h3
  simpa [List.getD_eq_getElem?_getD, h1, h2] using h3
theorem seal_take (kz nz : Nat → Int) (la lp : List Int) : (sealL kz nz la lp).take lp.length = xt (ks kz nz 1) lp lp.length ∧ (sealL kz nz la lp).drop lp.length = tagL kz nz la (xt (ks kz nz 1) lp lp.length) := by
  have h := xt_len (ks kz nz 1) lp lp.length
  unfold sealL
  constructor
  · rw [List.take_append_of_le_length (by omega), List.take_of_length_le (by omega)]
  · rw [List.drop_append_of_le_length (by omega), List.drop_of_length_le (by omega), List.nil_append]
theorem seal_len (kz nz : Nat → Int) (la lp : List Int) : (sealL kz nz la lp).length = lp.length + 16 := by
  unfold sealL; rw [List.length_append, xt_len, tag_len]
theorem seal_bd (kz nz : Nat → Int) (la : List Int) {lp : List Int} (hl : ∀ x ∈ lp, 0 ≤ x ∧ x < 256) : ∀ x ∈ sealL kz nz la lp, 0 ≤ x ∧ x < 256 := fun x hx => by
  unfold sealL at hx
  rcases List.mem_append.1 hx with h | h
  · exact xt_bd (ks_bd _ _ _) hl _ x h
  · exact tag_bd _ _ _ _ x h
theorem wpList_abs {P : Program} {ops : Array Oper} {Q : Exit → Act → World → Prop} {l : List Oper} {a : Act} {w : World} (R : World → Prop) (hR : R w) (h : ∀ w', R w' → wpList P ops Q l a w') : wpList P ops Q l a w := h w hR
theorem make_z (n : Nat) (hn : n ≤ 1000) (w : World) : (Instr.makeSlice 22 (.int .i64 (n : Int)) (.int .i64 (n : Int))).run Try.prog w = .ok (.slice (some ⟨w.heap.size, 0, none⟩) n n) (w.alloc (.cells ((List.replicate n (0 : Int)).map (Value.int .u8)).toArray 5)) := by
  obtain ⟨i0, hi, hz0, hz1, hz2⟩ := info_parts infoByte
  rw [run_make w 22 5 i0 (.int .u8 0) Try.underlying22 hi hz0 .i64 .i64 (n : Int) (n : Int) (by omega) (by omega) (by rw [hz2]; omega) (by omega), hz1]
  have e1 : madeCells (Value.cells (.int .u8 0)) n = ((List.replicate n (0 : Int)).map (Value.int .u8)).toArray := by
    apply Array.ext
    · simp [madeCells]
    · intro i h1 h2
      have h3 : i % 1 = 0 := by omega
      simp [madeCells, Value.cells, h3]
  simp only [Int.toNat_natCast, Nat.mul_one, e1]
set_option maxHeartbeats 4000000 in
theorem sound_calls (w : World) : Calls Try.prog 9 #[] w fun e w' => e = .returned (.bool true) ∧ Below w.heap.size w w' := by
  have m32 : ∀ w : World, (Instr.makeSlice 22 (.int .i64 32) (.int .i64 32)).run Try.prog w = .ok (.slice (some ⟨w.heap.size, 0, none⟩) 32 32) (w.alloc (.cells ((List.replicate 32 (0 : Int)).map (Value.int .u8)).toArray 5)) := make_z 32 (by omega)
  have m12 : ∀ w : World, (Instr.makeSlice 22 (.int .i64 12) (.int .i64 12)).run Try.prog w = .ok (.slice (some ⟨w.heap.size, 0, none⟩) 12 12) (w.alloc (.cells ((List.replicate 12 (0 : Int)).map (Value.int .u8)).toArray 5)) := make_z 12 (by omega)
  go_enter Try.func9, Try.ntmps9
  go_wp2_with fail
  have kc := fun (w : World) (C : Array Value) (n c : Nat) => Lib.run_convert_bytes_const (P := Try.prog) w 22 5 C n c Try.underlying22 Try.underlying5
  go_region
  · have hbel : Below w.heap.size w (((w.alloc (Obj.cells ((List.replicate 32 (0 : Int)).map (Value.int .u8)).toArray 5)).alloc (Obj.cells ((List.replicate 12 (0 : Int)).map (Value.int .u8)).toArray 5)).drew) := bel_drew (bel_alloc (bel_alloc (Below.refl _ _) _) _)
    have rk : IRow (((w.alloc (Obj.cells ((List.replicate 32 (0 : Int)).map (Value.int .u8)).toArray 5)).alloc (Obj.cells ((List.replicate 12 (0 : Int)).map (Value.int .u8)).toArray 5)).drew) w.heap.size 5 .u8 (List.replicate 32 0) := (((IRow.new rfl).alloc _).drew)
    have rn : IRow (((w.alloc (Obj.cells ((List.replicate 32 (0 : Int)).map (Value.int .u8)).toArray 5)).alloc (Obj.cells ((List.replicate 12 (0 : Int)).map (Value.int .u8)).toArray 5)).drew) (w.heap.size + 1) 5 .u8 (List.replicate 12 0) := ((IRow.new (by simp)).drew)
    have aK : At (((w.alloc (Obj.cells ((List.replicate 32 (0 : Int)).map (Value.int .u8)).toArray 5)).alloc (Obj.cells ((List.replicate 12 (0 : Int)).map (Value.int .u8)).toArray 5)).drew) w.heap.size 0 32 k0 := At.ofRow rk (by simp)
    have aN : At (((w.alloc (Obj.cells ((List.replicate 32 (0 : Int)).map (Value.int .u8)).toArray 5)).alloc (Obj.cells ((List.replicate 12 (0 : Int)).map (Value.int .u8)).toArray 5)).drew) (w.heap.size + 1) 0 12 n0 := At.ofRow rn (by simp)
    clear rk rn m32 m12
    go_wp2_with fail
    refine (block_at w.heap.size 0 32 (w.heap.size + 1) 0 12 k0 n0 0 _ k0_bd n0_bd (by unfold W32; omega) (by omega) (by omega) aK aN).mono ?_
    rintro e w1 ⟨rfl, hb1⟩
    replace aK := aK.belowS hb1
    replace aN := aN.belowS hb1
    replace hbel := below_S hbel hb1
    clear hb1
    have hbl : Unit → (blockL k0 0 n0).length = 64 := fun _ => block_len _ _ _
    have hb0 : Unit → (blockL k0 0 n0).getD 0 0 = 118 := fun _ => block0a
    have hb1 : Unit → (blockL k0 0 n0).getD 1 0 = 184 := fun _ => block0b
    generalize blockL k0 0 n0 = BL at hbl hb0 hb1 ⊢
    have hnew : IRow (w1.alloc (.cells ((List.replicate 64 0).map (Value.int .u8)).toArray 27)) w1.heap.size 27 .u8 (List.replicate 64 0) := IRow.new rfl
    have aK2 := (aK.alloc (.cells ((List.replicate 64 0).map (Value.int .u8)).toArray 27)).setRowO (b := w1.heap.size) (by have := aK.lt; omega) (BL.map (Value.int .u8)).toArray
    have aN2 := (aN.alloc (.cells ((List.replicate 64 0).map (Value.int .u8)).toArray 27)).setRowO (b := w1.heap.size) (by have := aN.lt; omega) (BL.map (Value.int .u8)).toArray
    have hrow : IRow ((w1.alloc (.cells ((List.replicate 64 0).map (Value.int .u8)).toArray 27)).setRow w1.heap.size (BL.map (Value.int .u8)).toArray) w1.heap.size 27 .u8 BL := VRow.setRow hnew _
    have hbel2 := bel_setRow (bel_alloc hbel (.cells ((List.replicate 64 0).map (Value.int .u8)).toArray 27)) hbel.size (BL.map (Value.int .u8)).toArray
    go_wp2_with (refine wpList_store_row rfl 27 _ _ rfl _ _ rfl rfl 27 _ hnew (by rw [List.size_toArray, List.length_map, hbl ()]; kernel_rfl) (by simp [hbl ()]) ?c1 ?_; (case c1 => simp [Value.oneCell']); refine wpList_abs (fun W => At W w.heap.size 0 32 k0 ∧ At W (w.heap.size + 1) 0 12 n0 ∧ IRow W w1.heap.size 27 .u8 BL ∧ Below w.heap.size w W) ⟨aK2, aN2, hrow, hbel2⟩ ?_; clear aK2 aN2 hrow hbel2 hnew aK aN hbel; rintro W2 ⟨aK, aN, hrow, hbel⟩)
    generalize w1.heap.size = g at hrow ⊢
    have SC := seal_calls w.heap.size 0 32 (w.heap.size + 1) 0 12 k0 n0 (W2.alloc (Obj.cells #[Value.int .u8 120] 5 (1, 2))) k0_bd n0_bd (by omega) (by omega) (aK.alloc _) (aN.alloc _) (.slice none 0 0) (.slice (some ⟨W2.heap.size, 0, none⟩) 1 1) [] [120] (Bs.nil _) (Bs.ofAt (At.new (l := [120]) rfl (Nat.le_refl _)) (by decide) (Nat.le_refl _) (by unfold maxLen; decide)) (by decide) (by decide)
    refine SC.mono ?_
    clear SC
    rintro e W3 ⟨⟨v', rfl, hown⟩, hb3⟩
    have hbd := seal_bd k0 n0 [] (lp := [120]) (by decide)
    have hBS := Bs.owns hown hbd
    have hsl : Unit → (sealL k0 n0 [] [120]).length = 17 := fun _ => seal_len k0 n0 [] [120]
    have hbel3 : Below w.heap.size w W3 := below_S (bel_alloc hbel _) hb3
    have aK3 := (aK.alloc (Obj.cells #[Value.int .u8 120] 5 (1, 2))).belowS hb3
    have aN3 := (aN.alloc (Obj.cells #[Value.int .u8 120] 5 (1, 2))).belowS hb3
    have hrow3 := (hrow.alloc (Obj.cells #[Value.int .u8 120] 5 (1, 2))).belowS hb3
    obtain ⟨g5, c5, rfl, hc51, hc52, _, _⟩ := own_form hown rfl (by rw [hsl ()]; omega)
    have hst := seal_take k0 n0 [] [120]
    have hX := xt_xt (ks k0 n0 1) (l := [120]) (by decide)
    rw [show ([120] : List Int).length = 1 from rfl] at hst hX
    generalize xt (ks k0 n0 1) [120] 1 = X1 at hst hX
    rw [hsl ()] at hBS hc51 ⊢
    clear hown hb3
    have OC := open_calls w.heap.size 0 32 (w.heap.size + 1) 0 12 k0 n0 W3 k0_bd n0_bd (by omega) (by omega) aK3 aN3 (.slice none 0 0) [] (Bs.nil _) (by decide) g5 0 17 c5 1 (sealL k0 n0 [] [120]) hBS (hsl ()) rfl (by omega) hc51 hc52 true (by rw [hst.1, hst.2]; exact (decide_eq_true rfl).symm)
    rw [hst.1, hX] at OC
    clear hst hX hBS hbd
    go_wp2_with fail
    refine OC.mono ?_
    clear OC
    rintro e W4 ⟨h4, hb4⟩
    obtain ⟨v7, rfl, hown7⟩ := (by first | exact h4 | simpa using h4 : ∃ v', e = Ending.returned (.tuple #[v', .int .i64 0]) ∧ W4.ownsRow W3.heap.size 5 1 v' 1 (([120] : List Int).map (Value.int .u8)))
    have hBp := Bs.owns (l := [120]) hown7 (by decide)
    have hstr := fun (W : World) (hb : Below W4.heap.size W4 W) => run_string_bs (P := Try.prog) W 22 5 Try.underlying22 Try.underlying5 v7 [120] (hBp.belowS hb) 9 Try.underlying9
    have hrow4 := hrow3.belowS hb4
    have c0 := hrow4.cell (k := 0) (by rw [hbl ()]; omega)
    have c1 := hrow4.cell (k := 1) (by rw [hbl ()]; omega)
    rw [hb0 ()] at c0
    rw [hb1 ()] at c1
    have hs4 := hstr W4 (Below.refl _ _)
    have hbel4 := below_S hbel3 hb4
    clear hrow3 hrow4 aK3 aN3 hrow aK aN
    go_wp2_with fail
    go_ret
    exact ⟨by first | kernel_rfl | rfl, hbel4⟩
  · have hbel : Below w.heap.size w (((w.alloc (Obj.cells ((List.replicate 12 (0 : Int)).map (Value.int .u8)).toArray 5)).alloc (Obj.cells ((List.replicate 32 (0 : Int)).map (Value.int .u8)).toArray 5)).drew) := bel_drew (bel_alloc (bel_alloc (Below.refl _ _) _) _)
    have rk : IRow (((w.alloc (Obj.cells ((List.replicate 12 (0 : Int)).map (Value.int .u8)).toArray 5)).alloc (Obj.cells ((List.replicate 32 (0 : Int)).map (Value.int .u8)).toArray 5)).drew) (w.heap.size + 1) 5 .u8 (List.replicate 32 0) := ((IRow.new (by simp)).drew)
    have rn : IRow (((w.alloc (Obj.cells ((List.replicate 12 (0 : Int)).map (Value.int .u8)).toArray 5)).alloc (Obj.cells ((List.replicate 32 (0 : Int)).map (Value.int .u8)).toArray 5)).drew) w.heap.size 5 .u8 (List.replicate 12 0) := (((IRow.new rfl).alloc _).drew)
    have aK : At (((w.alloc (Obj.cells ((List.replicate 12 (0 : Int)).map (Value.int .u8)).toArray 5)).alloc (Obj.cells ((List.replicate 32 (0 : Int)).map (Value.int .u8)).toArray 5)).drew) (w.heap.size + 1) 0 32 k0 := At.ofRow rk (by simp)
    have aN : At (((w.alloc (Obj.cells ((List.replicate 12 (0 : Int)).map (Value.int .u8)).toArray 5)).alloc (Obj.cells ((List.replicate 32 (0 : Int)).map (Value.int .u8)).toArray 5)).drew) w.heap.size 0 12 n0 := At.ofRow rn (by simp)
    clear rk rn m32 m12
    go_wp2_with fail
    refine (block_at (w.heap.size + 1) 0 32 w.heap.size 0 12 k0 n0 0 _ k0_bd n0_bd (by unfold W32; omega) (by omega) (by omega) aK aN).mono ?_
    rintro e w1 ⟨rfl, hb1⟩
    replace aK := aK.belowS hb1
    replace aN := aN.belowS hb1
    replace hbel := below_S hbel hb1
    clear hb1
    have hbl : Unit → (blockL k0 0 n0).length = 64 := fun _ => block_len _ _ _
    have hb0 : Unit → (blockL k0 0 n0).getD 0 0 = 118 := fun _ => block0a
    have hb1 : Unit → (blockL k0 0 n0).getD 1 0 = 184 := fun _ => block0b
    generalize blockL k0 0 n0 = BL at hbl hb0 hb1 ⊢
    have hnew : IRow (w1.alloc (.cells ((List.replicate 64 0).map (Value.int .u8)).toArray 27)) w1.heap.size 27 .u8 (List.replicate 64 0) := IRow.new rfl
    have aK2 := (aK.alloc (.cells ((List.replicate 64 0).map (Value.int .u8)).toArray 27)).setRowO (b := w1.heap.size) (by have := aK.lt; omega) (BL.map (Value.int .u8)).toArray
    have aN2 := (aN.alloc (.cells ((List.replicate 64 0).map (Value.int .u8)).toArray 27)).setRowO (b := w1.heap.size) (by have := aN.lt; omega) (BL.map (Value.int .u8)).toArray
    have hrow : IRow ((w1.alloc (.cells ((List.replicate 64 0).map (Value.int .u8)).toArray 27)).setRow w1.heap.size (BL.map (Value.int .u8)).toArray) w1.heap.size 27 .u8 BL := VRow.setRow hnew _
    have hbel2 := bel_setRow (bel_alloc hbel (.cells ((List.replicate 64 0).map (Value.int .u8)).toArray 27)) hbel.size (BL.map (Value.int .u8)).toArray
    go_wp2_with (refine wpList_store_row rfl 27 _ _ rfl _ _ rfl rfl 27 _ hnew (by rw [List.size_toArray, List.length_map, hbl ()]; kernel_rfl) (by simp [hbl ()]) ?c1 ?_; (case c1 => simp [Value.oneCell']); refine wpList_abs (fun W => At W (w.heap.size + 1) 0 32 k0 ∧ At W w.heap.size 0 12 n0 ∧ IRow W w1.heap.size 27 .u8 BL ∧ Below w.heap.size w W) ⟨aK2, aN2, hrow, hbel2⟩ ?_; clear aK2 aN2 hrow hbel2 hnew aK aN hbel; rintro W2 ⟨aK, aN, hrow, hbel⟩)
    generalize w1.heap.size = g at hrow ⊢
    have SC := seal_calls (w.heap.size + 1) 0 32 w.heap.size 0 12 k0 n0 (W2.alloc (Obj.cells #[Value.int .u8 120] 5 (1, 2))) k0_bd n0_bd (by omega) (by omega) (aK.alloc _) (aN.alloc _) (.slice none 0 0) (.slice (some ⟨W2.heap.size, 0, none⟩) 1 1) [] [120] (Bs.nil _) (Bs.ofAt (At.new (l := [120]) rfl (Nat.le_refl _)) (by decide) (Nat.le_refl _) (by unfold maxLen; decide)) (by decide) (by decide)
    refine SC.mono ?_
    clear SC
    rintro e W3 ⟨⟨v', rfl, hown⟩, hb3⟩
    have hbd := seal_bd k0 n0 [] (lp := [120]) (by decide)
    have hBS := Bs.owns hown hbd
    have hsl : Unit → (sealL k0 n0 [] [120]).length = 17 := fun _ => seal_len k0 n0 [] [120]
    have hbel3 : Below w.heap.size w W3 := below_S (bel_alloc hbel _) hb3
    have aK3 := (aK.alloc (Obj.cells #[Value.int .u8 120] 5 (1, 2))).belowS hb3
    have aN3 := (aN.alloc (Obj.cells #[Value.int .u8 120] 5 (1, 2))).belowS hb3
    have hrow3 := (hrow.alloc (Obj.cells #[Value.int .u8 120] 5 (1, 2))).belowS hb3
    obtain ⟨g5, c5, rfl, hc51, hc52, _, _⟩ := own_form hown rfl (by rw [hsl ()]; omega)
    have hst := seal_take k0 n0 [] [120]
    have hX := xt_xt (ks k0 n0 1) (l := [120]) (by decide)
    rw [show ([120] : List Int).length = 1 from rfl] at hst hX
    generalize xt (ks k0 n0 1) [120] 1 = X1 at hst hX
    rw [hsl ()] at hBS hc51 ⊢
    clear hown hb3
    have OC := open_calls (w.heap.size + 1) 0 32 w.heap.size 0 12 k0 n0 W3 k0_bd n0_bd (by omega) (by omega) aK3 aN3 (.slice none 0 0) [] (Bs.nil _) (by decide) g5 0 17 c5 1 (sealL k0 n0 [] [120]) hBS (hsl ()) rfl (by omega) hc51 hc52 true (by rw [hst.1, hst.2]; exact (decide_eq_true rfl).symm)
    rw [hst.1, hX] at OC
    clear hst hX hBS hbd
    go_wp2_with fail
    refine OC.mono ?_
    clear OC
    rintro e W4 ⟨h4, hb4⟩
    obtain ⟨v7, rfl, hown7⟩ := (by first | exact h4 | simpa using h4 : ∃ v', e = Ending.returned (.tuple #[v', .int .i64 0]) ∧ W4.ownsRow W3.heap.size 5 1 v' 1 (([120] : List Int).map (Value.int .u8)))
    have hBp := Bs.owns (l := [120]) hown7 (by decide)
    have hstr := fun (W : World) (hb : Below W4.heap.size W4 W) => run_string_bs (P := Try.prog) W 22 5 Try.underlying22 Try.underlying5 v7 [120] (hBp.belowS hb) 9 Try.underlying9
    have hrow4 := hrow3.belowS hb4
    have c0 := hrow4.cell (k := 0) (by rw [hbl ()]; omega)
    have c1 := hrow4.cell (k := 1) (by rw [hbl ()]; omega)
    rw [hb0 ()] at c0
    rw [hb1 ()] at c1
    have hs4 := hstr W4 (Below.refl _ _)
    have hbel4 := below_S hbel3 hb4
    clear hrow3 hrow4 aK3 aN3 hrow aK aN
    go_wp2_with fail
    go_ret
    exact ⟨by first | kernel_rfl | rfl, hbel4⟩
end Go.Proofs.Ytddiamocnkffjaa
