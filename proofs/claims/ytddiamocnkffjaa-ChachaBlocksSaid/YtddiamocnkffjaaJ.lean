import Derived.Test.YtddiamocnkffjaaI
namespace Go.Proofs.Ytddiamocnkffjaa
open Go.RowKit Go.Proofs Go.Proofs.MyK
set_option linter.unusedSimpArgs false
set_option linter.unusedVariables false
theorem put4_app (A : List Int) (n : Nat) (x : Int) : put4 (A ++ List.replicate (n + 4) 0) A.length x = A ++ b4 x ++ List.replicate n 0 := by
  simp [put4, List.replicate_succ, List.set_append, b4]
theorem b4_mod (x : Int) : b4 (x % 4294967296) = b4 x := by
  unfold b4
  congr 1
  · omega
  congr 1
  · omega
  congr 1
  · omega
  congr 1
  omega
theorem outs_eq (s t : List Int) : ∀ k, k ≤ 16 → outs s t k = routs s t k ++ List.replicate (64 - 4 * k) 0
  | 0, _ => by simp [outs, routs]
  | k + 1, h => by
    rw [outs_succ, routs_succ, outs_eq s t k (by omega)]
    have h1 := put4_app (routs s t k) (64 - 4 * (k + 1)) ((s.getD k 0 + t.getD k 0) % 4294967296)
    rw [routs_len, b4_mod, show 64 - 4 * (k + 1) + 4 = 64 - 4 * k by omega] at h1
    exact h1
theorem rblock_eq (kz : Nat → Int) (c : Int) (nz : Nat → Int) : rblockL kz c nz = blockL kz c nz := by
  unfold rblockL blockL
  rw [outs_eq _ _ 16 (by omega)]; simp
theorem block_mem (kz : Nat → Int) (c : Int) (nz : Nat → Int) : ∀ x ∈ blockL kz c nz, 0 ≤ x ∧ x < 256 := fun x hx => by
  obtain ⟨i, hi, rfl⟩ := List.getElem_of_mem hx
  have := block_bd kz c nz i
  rwa [List.getD_eq_getElem?_getD, List.getElem?_eq_getElem hi] at this
theorem own_form {w : World} {base : Nat} {v : Value} {l : List Int} {n : Nat} (h : w.ownsRow base 5 1 v n (l.map (Value.int .u8))) (hl : l.length = n) (h0 : 0 < n) :
    ∃ g cap, v = .slice (some ⟨g, 0, none⟩) n cap ∧ n ≤ cap ∧ cap ≤ maxLen ∧ base ≤ g ∧ At w g 0 n (fun k => l.getD k 0) := by
  have h' := h
  rcases h.2 with ⟨rfl, h1⟩ | ⟨g, cap, cur, rfl, hb, hg, h1, h2, h3, h4⟩
  · omega
  · refine ⟨g, cap, rfl, h1, h2, hb, (h'.lt g rfl).2, fun k hk => ?_⟩
    show w.cell? ⟨g, 0 + k, none⟩ = some (Value.int .u8 (l.getD k 0))
    rw [Nat.zero_add, h'.cellAt k (by omega)]
    simp [List.getD_eq_getElem?_getD, hl, hk]
theorem rblock_at (bk ok nk ck bn on nn cn : Nat) (kz nz : Nat → Int) (c : Int) (w : World) (hk : ∀ k, 0 ≤ kz k ∧ kz k < 256) (hn : ∀ k, 0 ≤ nz k ∧ nz k < 256) (hc : W32 c)
    (nk32 : 32 ≤ nk) (nn12 : 12 ≤ nn) (ck32 : nk ≤ ck) (cn12 : nn ≤ cn) (hK : At w bk ok 32 kz) (hN : At w bn on 12 nz) :
    Calls Try.prog 12 #[.slice (some ⟨bk, ok, none⟩) nk ck, .int .u32 c, .slice (some ⟨bn, on, none⟩) nn cn] w fun e w' => (∃ g cap, e = .returned (.slice (some ⟨g, 0, none⟩) 64 cap) ∧ 64 ≤ cap ∧ cap ≤ maxLen ∧ w.heap.size ≤ g ∧ At w' g 0 64 (fun k => (blockL kz c nz).getD k 0)) ∧ Below w.heap.size w w' := by
  refine (rblock_calls bk ok nk ck bn on nn cn kz nz c w hk hn hc nk32 nn12 ck32 cn12 hK hN).mono ?_
  rintro e w' ⟨⟨v, rfl, ho⟩, hb⟩
  rw [rblock_eq] at ho
  obtain ⟨g, cap, rfl, h1, h2, h3, h4⟩ := own_form ho (block_len _ _ _) (by omega)
  exact ⟨⟨g, cap, rfl, h1, h2, h3, h4⟩, hb⟩
/-- The bytes turned, one after the other. -/
def xa (f : Nat → Int) (l : List Int) : Nat → List Int
  | 0 => []
  | k + 1 => xa f l k ++ [xr (l.getD k 0) (f k)]
theorem xa_len (f : Nat → Int) (l : List Int) : ∀ k, (xa f l k).length = k
  | 0 => rfl
  | k + 1 => by rw [xa, List.length_append, xa_len f l k]; rfl
theorem xt_xa (f : Nat → Int) (l : List Int) : ∀ k, k ≤ l.length → xt f l k = xa f l k ++ l.drop k
  | 0, _ => by simp [xt, xa]
  | k + 1, h => by
    rw [xt, xa, xt_xa f l k (by omega), List.set_append_right _ _ (by rw [xa_len]; omega), xa_len, Nat.sub_self, List.drop_eq_getElem_cons (by omega), List.set_cons_zero, List.append_assoc, List.singleton_append]
theorem xt_all (f : Nat → Int) (l : List Int) : xt f l l.length = xa f l l.length := by rw [xt_xa f l _ (Nat.le_refl _)]; simp
theorem min_ite (a b E : Int) (h : (if a < b then a else b) = E) : (if b ≤ a then b else a) = E := by rw [← h]; split <;> split <;> omega
set_option maxRecDepth 4000 in
set_option maxHeartbeats 4000000 in
theorem rxor_calls (bk ok nk ck bn on nn cn : Nat) (kz nz : Nat → Int) (c : Int) (w : World) (hk : ∀ k, 0 ≤ kz k ∧ kz k < 256) (hn : ∀ k, 0 ≤ nz k ∧ nz k < 256) (hc : W32 c)
    (nk32 : 32 ≤ nk) (nn12 : 12 ≤ nn) (ck32 : nk ≤ ck) (cn12 : nn ≤ cn) (hK : At w bk ok 32 kz) (hN : At w bn on 12 nz) (v : Value) (l : List Int) (hB : Bs w v l) (hm : l.length ≤ 140737488355328) :
    Calls Try.prog 14 #[.slice (some ⟨bk, ok, none⟩) nk ck, .int .u32 c, .slice (some ⟨bn, on, none⟩) nn cn, v] w fun e w' => (∃ v', e = .returned v' ∧ w'.ownsRow w.heap.size 5 1 v' l.length ((xt (ks kz nz c) l l.length).map (Value.int .u8))) ∧ Below w.heap.size w w' := by
  obtain ⟨i0, hi, hz0, hz1, hz2⟩ := info_parts infoByte
  have hbk := hK.lt
  have hbn := hN.lt
  have BC := Lib.hid (fun (x : Int) (W : World) (hx : W32 x) (hb : Below w.heap.size w W) => rblock_at bk ok nk ck bn on nn cn kz nz x W hk hn hx nk32 nn12 ck32 cn12 (hK.below hb hbk) (hN.below hb hbn))
  have hl := hB.1
  obtain ⟨a, cv, rfl, hcv1, hcv2⟩ := hB.form
  have hBat := fun h => hB.at h
  clear hB
  rw [xt_all]
  go_enter Try.func14, Try.ntmps14
  go_wp2_with fail
  go_loopw [9, 10] (fun v u wr => ∃ m : Nat, 64 * m ≤ l.length + 63 ∧ u = .int .i64 (64 * (m : Int)) ∧ wr.ownsRow w.heap.size 5 1 v (min (64 * m) l.length) ((xa (ks kz nz c) l (min (64 * m) l.length)).map (Value.int .u8)) ∧ Below w.heap.size w wr) (fun _ u _ => l.length + 64 - (intOf u).toNat)
  case atStart => exact ⟨0, by omega, rfl, (by rw [Nat.zero_min]; exact World.ownsRow_nil _ _ _ _), Below.refl _ _⟩
  case round =>
    obtain ⟨m, hm9, rfl, hown, hbel⟩ := hrel
    by_cases hlt : 64 * m < l.length
    · go_wp2_with fail
      have hx32 : W32 ((c + (m : Int)) % 4294967296) := by unfold W32; omega
      refine (BC.out _ wr hx32 hbel).mono ?_
      rintro e w2 ⟨⟨g, capk, rfl, hck1, hck2, hgk, hAt⟩, hb1⟩
      obtain ⟨b0, off0, rfl, hAl⟩ := hBat (by omega)
      have hks : ∀ j, j < 64 → Unit → ks kz nz c (64 * m + j) = (blockL kz ((c + (m : Int)) % 4294967296) nz).getD j 0 := fun j hj _ => by
        unfold ks
        rw [show (64 * m + j) / 64 = m by omega, show (64 * m + j) % 64 = j by omega]
      rw [Nat.min_eq_left (by omega)] at hown
      have hown2 := owns_belowS hown hb1
      have hbel2 := below_S hbel hb1
      have hgo : ∀ k, Value.ownBlock _ = some k → k ≠ g := fun k hk => by have := (hown.lt k hk).2; omega
      have hg2 : w.heap.size ≤ g := by have := hbel.size; omega
      clear hown hbel hb1 hx32 hgk hBat
      go_wp2_with fail
      go_loopw [9, 12] (fun v u wr => ∃ j : Nat, 64 * m ≤ j ∧ j ≤ l.length ∧ j ≤ 64 * m + 64 ∧ u = .int .i64 (j : Int) ∧ wr.ownsRow w.heap.size 5 1 v j ((xa (ks kz nz c) l j).map (Value.int .u8)) ∧ At wr g 0 64 (fun k => (blockL kz ((c + (m : Int)) % 4294967296) nz).getD k 0) ∧ (∀ k, Value.ownBlock v = some k → k ≠ g) ∧ Below w.heap.size w wr) (fun _ u _ => l.length + 64 - (intOf u).toNat)
      case atStart => exact ⟨64 * m, by omega, by omega, by omega, (by go_num), hown2, hAt, hgo, hbel2⟩
      clear hown2 hAt hgo hbel2
      case round =>
        obtain ⟨j, hj1, hj2, hj3, rfl, hown, hAt, hgo, hbel⟩ := hrel
        obtain ⟨E, hE⟩ : ∃ E : Int, (if (l.length : Int) < 64 * (m : Int) + 64 then (l.length : Int) else 64 * (m : Int) + 64) = E := ⟨_, rfl⟩
        by_cases hlj : j < 64 * m + 64 ∧ j < l.length
        · obtain ⟨hlj1, hlj2⟩ := hlj
          have hEj : (j : Int) < E := by rw [← hE]; split <;> omega
          have l1 : wr.cell? ⟨b0, off0 + j, none⟩ = some (.int .u8 (l.getD j 0)) := (hAl.below hbel hAl.lt).cell j hlj2
          have l2 := hAt.cell (j - 64 * m) (by omega)
          simp only [Nat.zero_add] at l2
          have hk1 := hks (j - 64 * m) (by omega) ()
          rw [show 64 * m + (j - 64 * m) = j by omega] at hk1
          rw [← hk1] at l2
          clear hk1
          have x1 := getD_bd' hl j
          have y1 := ks_bd kz nz c j
          have hnx : Unit → xa (ks kz nz c) l (j + 1) = (xa (ks kz nz c) l j) ++ [xr (l.getD j 0) (ks kz nz c j)] := fun _ => by rw [xa]
          generalize l.getD j 0 = X at l1 x1 hnx
          generalize ks kz nz c j = Y at l2 y1 hnx
          have hxx : bits BinOp.xor IntKind.u8 X Y = xr X Y := xr8 x1 y1
          have hd1 : (j : Int) - 64 * (m : Int) < 64 := by omega
          have hd2 : 64 * (m : Int) ≤ (j : Int) := by omega
          have hd3 : ((j : Int) - 64 * (m : Int)).toNat = j - 64 * m := by omega
          have hjl : (j : Int) < (l.length : Int) := by omega
          go_wp2_with fail
          have hz := xr_bd8 x1 y1
          generalize xr X Y = Z at hxx hz hnx
          have hb9 : Below wr.heap.size wr ((wr.alloc (Obj.cells #[Value.int .u8 Z] 5)).drew) := bel_drew (bel_alloc (Below.refl _ _) _)
          have hB9 : Bs ((wr.alloc (Obj.cells #[Value.int .u8 Z] 5)).drew) (.slice (some ⟨wr.heap.size, 0, none⟩) 1 1) [Z] := Bs.ofAt (At.drew (At.new (l := [Z]) rfl (Nat.le_refl _))) (by simp; omega) (Nat.le_refl _) (by unfold maxLen; decide)
          refine wp_region_plan 12 12 [(.p, 0), (.h, 1), (.h, 2), (.h, 3), (.h, 4), (.h, 5), (.h, 6), (.h, 7), (.h, 8), (.h, 9), (.h, 10), (.h, 11), (.w, 12), (.w, 13), (.p, 14)] mixed (by kernel_rfl) (fun dst _ _ _ _ h => by cases dst <;> exact h) ?_
          intro Q' K' hQ' hK'
          simp only [planOps_cons, planOps_nil, getD_zero, getD_succ]
          repeat (first
            | (refine seqC_w (fun K hK => ?_); rw [if_pos (by rfl)]; refine wp_append_bs _ _ _ 22 rfl w.heap.size 5 i0 Try.underlying22 hi hz0 hz1 hz2 _ j (xa (ks kz nz c) l j) rfl (owns_belowS hown hb9) _ rfl [Z] hB9 (by simp; omega) (by have := hbel.size; simp; omega) ?_; intro v' w3 hown' hgrow hblk; refine hK _ _ ?_; clear hK K)
            | ((first | (with_reducible refine seqC_skip_h rfl ?_) | (with_reducible refine seqC_skip_p rfl ?_) | (with_reducible refine seqC_skip_e rfl ?_) | (with_reducible refine seqC_skip_w rfl ?_) | (with_reducible refine seqC_skip_b hB rfl ?_)); (try simp only [Act.put, List.setIfInBounds_toArray, List.set_cons_zero, List.set_cons_succ]))
            | (refine seqC_h (fun K hK => ?_); go_simp; (try go_bits); refine hK _ ?_; clear hK K)
            | (refine seqC_p (v := ?_) rfl (fun w' => ?_) ?_; rotate_left; go_simp; (try go_bits); (with_reducible rfl); (try simp only [Act.put, List.setIfInBounds_toArray, List.set_cons_zero, List.set_cons_succ]))
            | (refine seqC_e (v := ?_) rfl (fun w' hb' => ?_) ?_; rotate_left; (have hb1 := (bcell hb').1; clear hb'; go_simp; (try go_bits)); (with_reducible rfl); (try simp only [Act.put, List.setIfInBounds_toArray, List.set_cons_zero, List.set_cons_succ]))
            | (refine seqC_w (fun K hK => ?_); go_simp; (try go_bits); refine hK _ _ ?_; clear hK K))
          refine seqC_nil (hK' _ _ ?_)
          clear hK' K' hQ' Q'
          have ho' : w3.ownsRow w.heap.size 5 1 v' (j + 1) ((xa (ks kz nz c) l (j + 1)).map (Value.int .u8)) := by rw [hnx ()]; exact hown'
          have hb' : Below w.heap.size w w3 := (below_S hbel hb9).grown hgrow (by have := hbel.size; simp; omega) (fun k hk => (hown.lt k hk).1)
          have hAt' := (hAt.belowS hb9).grown hgrow (fun e => hgo g e.symm rfl)
          have hgo' : ∀ k, Value.ownBlock v' = some k → k ≠ g := fun k hk => by
            rcases hblk k hk with h | h
            · exact hgo k h
            · have := hAt.lt; simp at h; omega
          clear hown' hgrow hblk hown hAt hgo hbel hb9 hB9 hxx hz l1 l2 x1 y1 hd1 hd2 hd3 hjl hE hEj
          go_wp2_with fail
          go_roundw
          case rel => exact ⟨j + 1, by omega, by omega, by omega, by go_num, ho', hAt', hgo', hb'⟩
          case measure => simp [intOf]; omega
        · have hEj : ¬ (j : Int) < E := by rw [← hE]; split <;> omega
          have hje : j = min (64 * (m + 1)) l.length := by omega
          go_wp2_with fail
          go_roundw
          case rel => exact ⟨m + 1, by omega, by go_num, by rw [← hje]; exact hown, hbel⟩
          case measure => simp [intOf]; omega
    · go_wp2_with fail
      go_ret
      rw [Nat.min_eq_right (by omega)] at hown
      exact ⟨⟨_, rfl, hown⟩, hbel⟩
end Go.Proofs.Ytddiamocnkffjaa
