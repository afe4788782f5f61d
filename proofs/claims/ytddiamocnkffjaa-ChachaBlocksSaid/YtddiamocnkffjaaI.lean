import Derived.Test.YtddiamocnkffjaaH
import Derived.Test.YtddiamocnkffjaaK5
namespace Go.Proofs.Ytddiamocnkffjaa
open Go.RowKit Go.Proofs Go.Proofs.MyK
set_option linter.unusedSimpArgs false
set_option linter.unusedVariables false
/-- The stream's byte j. -/
def ks (kz nz : Nat → Int) (c : Int) (j : Nat) : Int := (blockL kz ((c + (j / 64 : Nat)) % 4294967296) nz).getD (j % 64) 0
/-- The first k bytes turned. -/
def xt (f : Nat → Int) (l : List Int) : Nat → List Int
  | 0 => l
  | k + 1 => (xt f l k).set k (xr (l.getD k 0) (f k))
theorem xt_len (f : Nat → Int) (l : List Int) : ∀ k, (xt f l k).length = l.length
  | 0 => rfl
  | k + 1 => by rw [xt, List.length_set, xt_len f l k]
theorem xt_get (f : Nat → Int) (l : List Int) : ∀ k j, k ≤ j → (xt f l k).getD j 0 = l.getD j 0
  | 0, _, _ => rfl
  | k + 1, j, h => by rw [xt, getD_set, if_neg (by omega), xt_get f l k j (by omega)]
theorem xr_bd8 {a b : Int} (ha : 0 ≤ a ∧ a < 256) (hb : 0 ≤ b ∧ b < 256) : 0 ≤ xr a b ∧ xr a b < 256 := by
  have h := Nat.xor_lt_two_pow (x := a.toNat) (y := b.toNat) (n := 8) (by omega) (by omega)
  unfold xr
  omega
theorem owns_setRowO {w : World} {base size n g : Nat} {e : TypeId} {v : Value} {xs : List Value} (h : w.ownsRow base e size v n xs) (hne : v.ownBlock ≠ some g) (ys : Array Value) : (w.setRow g ys).ownsRow base e size v n xs :=
  h.kept (row := some g) ⟨rfl, rfl, rfl, by simp, fun k _ hk => setRow_other w g k ys (fun e => hk (by rw [e]))⟩ (.inr hne)
theorem hown_set {w : World} {base g n cap : Nat} {l : List Int} (h : w.ownsRow base 5 1 (.slice (some ⟨g, 0, none⟩) n cap) n (l.map (Value.int .u8))) (j : Nat) (u : Int) :
    (w.drew.setCell ⟨g, j, none⟩ (.int .u8 u)).ownsRow base 5 1 (.slice (some ⟨g, 0, none⟩) n cap) n ((l.set j u).map (Value.int .u8)) := by
  rw [List.map_set]
  exact ((owns_drew h).stored j _).1
theorem put4_bd {s : List Int} (h : ∀ k, 0 ≤ s.getD k 0 ∧ s.getD k 0 < 256) (off : Nat) (x : Int) : ∀ k, 0 ≤ (put4 s off x).getD k 0 ∧ (put4 s off x).getD k 0 < 256 := by
  intro k
  unfold put4
  rw [getD_set]; split
  · omega
  rw [getD_set]; split
  · omega
  rw [getD_set]; split
  · omega
  rw [getD_set]; split
  · omega
  exact h k
theorem outs_bd (s t : List Int) : ∀ k j, 0 ≤ (outs s t k).getD j 0 ∧ (outs s t k).getD j 0 < 256
  | 0, j => by
    rw [outs]
    exact getD_bd _ (by decide) j
  | k + 1, j => by rw [outs_succ]; exact put4_bd (outs_bd s t k) _ _ j
theorem block_bd (kz : Nat → Int) (c : Int) (nz : Nat → Int) (j : Nat) : 0 ≤ (blockL kz c nz).getD j 0 ∧ (blockL kz c nz).getD j 0 < 256 := outs_bd _ _ _ j
theorem block_len (kz : Nat → Int) (c : Int) (nz : Nat → Int) : (blockL kz c nz).length = 64 := outs_len _ _ _
theorem block_at (bk ok ck bn on cn : Nat) (kz nz : Nat → Int) (c : Int) (w : World) (hk : ∀ k, 0 ≤ kz k ∧ kz k < 256) (hn : ∀ k, 0 ≤ nz k ∧ nz k < 256) (hc : W32 c)
    (ck32 : 32 ≤ ck) (cn12 : 12 ≤ cn) (hK : At w bk ok 32 kz) (hN : At w bn on 12 nz) :
    Calls Try.prog 10 #[.slice (some ⟨bk, ok, none⟩) 32 ck, .int .u32 c, .slice (some ⟨bn, on, none⟩) 12 cn] w fun e w' => e = .returned (.tuple #[.agg ((blockL kz c nz).map (Value.int .u8)).toArray, .int .i64 0]) ∧ Below w.heap.size w w' :=
  block_calls bk ok ck bn on cn kz nz c w hk hn hc hK.lt hN.lt ck32 cn12 hK.cell hN.cell
theorem ks_bd (kz nz : Nat → Int) (c : Int) (j : Nat) : 0 ≤ ks kz nz c j ∧ ks kz nz c j < 256 := block_bd _ _ _ _
theorem xt_bd {f : Nat → Int} (hf : ∀ k, 0 ≤ f k ∧ f k < 256) {l : List Int} (hl : ∀ x ∈ l, 0 ≤ x ∧ x < 256) : ∀ k, ∀ x ∈ xt f l k, 0 ≤ x ∧ x < 256
  | 0 => hl
  | k + 1 => fun x hx => by
    rw [xt] at hx
    rcases List.mem_or_eq_of_mem_set hx with h | h
    · exact xt_bd hf hl k x h
    · rw [h]; exact xr_bd8 (getD_bd' hl k) (hf k)
theorem xr8 {a b : Int} (ha : 0 ≤ a ∧ a < 256) (hb : 0 ≤ b ∧ b < 256) : bits .xor .u8 a b = xr a b := u8_xor a b ha.1 ha.2 hb.1 hb.2
set_option maxRecDepth 4000 in
set_option maxHeartbeats 4000000 in
theorem xor_calls (bk ok ck bn on cn : Nat) (kz nz : Nat → Int) (c : Int) (w : World) (hk : ∀ k, 0 ≤ kz k ∧ kz k < 256) (hn : ∀ k, 0 ≤ nz k ∧ nz k < 256) (hc : W32 c)
    (ck32 : 32 ≤ ck) (cn12 : 12 ≤ cn) (hK : At w bk ok 32 kz) (hN : At w bn on 12 nz) (v : Value) (l : List Int) (hB : Bs w v l) (hm : l.length ≤ 140737488355328) :
    Calls Try.prog 11 #[.slice (some ⟨bk, ok, none⟩) 32 ck, .int .u32 c, .slice (some ⟨bn, on, none⟩) 12 cn, v] w fun e w' => (∃ v', e = .returned (.tuple #[v', .int .i64 0]) ∧ w'.ownsRow w.heap.size 5 1 v' l.length ((xt (ks kz nz c) l l.length).map (Value.int .u8))) ∧ Below w.heap.size w w' := by
  obtain ⟨i0, hi, hz0, hz1, hz2⟩ := info_parts infoByte
  have hbk := hK.lt
  have hbn := hN.lt
  have BC := Lib.hid (fun (x : Int) (W : World) (hx : W32 x) (hb : Below w.heap.size w W) => block_at bk ok ck bn on cn kz nz x W hk hn hx ck32 cn12 (hK.below hb hbk) (hN.below hb hbn))
  go_enter Try.func11, Try.ntmps11
  go_wp2_with (at_builtin; refine wpList_append_bs _ rfl _ _ 22 rfl w.heap.size 5 i0 Try.underlying22 hi hz0 hz1 hz2 _ 0 [] rfl (World.ownsRow_nil _ _ _ _) _ rfl l hB (by omega) (Nat.le_refl _) ?_)
  intro v' w1 hown hgrow _
  have hbel : Below w.heap.size w w1 := (Below.refl _ _).grown hgrow (Nat.le_refl _) (fun k hk => by cases hk)
  clear hgrow
  have hl := hB.1
  obtain ⟨a', cap', rfl, hcap1, hcap2⟩ := (Bs.owns hown hl).form
  clear hB
  go_wp2_with fail
  have hstart : w1.ownsRow w.heap.size 5 1 (.slice a' l.length cap') l.length ((xt (ks kz nz c) l (min 0 l.length)).map (Value.int .u8)) := by rw [Nat.zero_min]; exact hown
  clear hown
  go_loopw [11] (fun u wr => ∃ m : Nat, 64 * m ≤ l.length + 63 ∧ u = .int .i64 (64 * (m : Int)) ∧ wr.ownsRow w.heap.size 5 1 (.slice a' l.length cap') l.length ((xt (ks kz nz c) l (min (64 * m) l.length)).map (Value.int .u8)) ∧ Below w.heap.size w wr) (fun u _ => l.length + 64 - (intOf u).toNat)
  case atStart => exact ⟨0, by omega, rfl, hstart, hbel⟩
  clear hstart hbel
  case round =>
    obtain ⟨m, hm9, rfl, hown, hbel⟩ := hrel
    by_cases hlt : 64 * m < l.length
    · go_wp2_with fail
      have hx32 : W32 ((c + (m : Int)) % 4294967296) := by unfold W32; omega
      refine (BC.out _ wr hx32 hbel).mono ?_
      rintro e w2 ⟨rfl, hb1⟩
      obtain ⟨b', off', hob, _⟩ := (Bs.owns (l := xt (ks kz nz c) l (min (64 * m) l.length)) (by rw [xt_len]; exact hown) (xt_bd (ks_bd _ _ _) hl _)).at (by omega)
      subst hob
      have hbl : Unit → (blockL kz ((c + (m : Int)) % 4294967296) nz).length = 64 := fun _ => block_len _ _ _
      have hks : ∀ j, j < 64 → Unit → ks kz nz c (64 * m + j) = (blockL kz ((c + (m : Int)) % 4294967296) nz).getD j 0 := fun j hj _ => by
        unfold ks
        rw [show (64 * m + j) / 64 = m by omega, show (64 * m + j) % 64 = j by omega]
      have hnew : IRow (w2.alloc (.cells ((List.replicate 64 0).map (Value.int .u8)).toArray 27)) w2.heap.size 27 .u8 (List.replicate 64 0) := IRow.new rfl
      have hown2 := (owns_belowS hown hb1).alloc (.cells ((List.replicate 64 0).map (Value.int .u8)).toArray 27)
      have hbel2 := bel_alloc (below_S hbel hb1) (.cells ((List.replicate 64 0).map (Value.int .u8)).toArray 27)
      have hg2 : w.heap.size ≤ w2.heap.size := (below_S hbel hb1).size
      obtain ⟨g, hg⟩ : ∃ g, g = w2.heap.size := ⟨_, rfl⟩
      have hob : w.heap.size ≤ b' ∧ b' < w2.heap.size ∧ off' = 0 := by
        have h1 := hown.lt b'
        rcases hown.2 with ⟨h0, _⟩ | ⟨g0, c0, cur, h0, h3, h4, _⟩
        · cases h0
        · injection h0 with h0
          injection h0 with h0
          injection h0 with h5 h6
          subst h5 h6
          exact ⟨h3, by have := (h1 rfl).2; have := hb1.size; omega, rfl⟩
      obtain ⟨hob1, hob2, rfl⟩ := hob
      clear hown hb1 hx32
      go_wp2_with (refine wpList_store_row rfl 27 _ _ rfl _ _ rfl rfl 27 _ hnew (by rw [List.size_toArray, List.length_map, hbl ()]; kernel_rfl) (by simp [hbl ()]) ?c1 ?_; (case c1 => simp [Value.oneCell']))
      have hrow : IRow ((w2.alloc (.cells ((List.replicate 64 0).map (Value.int .u8)).toArray 27)).setRow w2.heap.size ((blockL kz ((c + (m : Int)) % 4294967296) nz).map (Value.int .u8)).toArray) w2.heap.size 27 .u8 (blockL kz ((c + (m : Int)) % 4294967296) nz) := VRow.setRow hnew _
      have hown3 := owns_setRowO (g := w2.heap.size) hown2 (by simp [Value.ownBlock]; omega) ((blockL kz ((c + (m : Int)) % 4294967296) nz).map (Value.int .u8)).toArray
      have hbel3 := bel_setRow hbel2 hg2 ((blockL kz ((c + (m : Int)) % 4294967296) nz).map (Value.int .u8)).toArray
      rw [← hg] at hrow hown3 hbel3 ⊢
      rw [Nat.min_eq_left (by omega)] at hown3
      rw [← hg] at hob2 hg2
      clear hnew hown2 hbel2 hg
      go_loopw [14] (fun u wr => ∃ j : Nat, 64 * m ≤ j ∧ j ≤ l.length ∧ j ≤ 64 * m + 64 ∧ u = .int .i64 (j : Int) ∧ wr.ownsRow w.heap.size 5 1 (.slice (some ⟨b', 0, none⟩) l.length cap') l.length ((xt (ks kz nz c) l j).map (Value.int .u8)) ∧ IRow wr g 27 .u8 (blockL kz ((c + (m : Int)) % 4294967296) nz) ∧ Below w.heap.size w wr) (fun u _ => l.length + 64 - (intOf u).toNat)
      case atStart => exact ⟨64 * m, by omega, by omega, by omega, (by go_num), hown3, hrow, hbel3⟩
      clear hown3 hrow hbel3 hbel
      case round =>
        obtain ⟨j, hj1, hj2, hj3, rfl, hown, hrow, hbel⟩ := hrel
        obtain ⟨E, hE⟩ : ∃ E : Int, (if (l.length : Int) < 64 * (m : Int) + 64 then (l.length : Int) else 64 * (m : Int) + 64) = E := ⟨_, rfl⟩
        by_cases hlj : j < 64 * m + 64 ∧ j < l.length
        · obtain ⟨hlj1, hlj2⟩ := hlj
          have hEj : (j : Int) < E := by rw [← hE]; split <;> omega
          have l1 : wr.cell? ⟨b', j, none⟩ = some (.int .u8 (l.getD j 0)) := by
            rw [hown.cellAt j (by omega), List.getElem?_map, ← xt_get (ks kz nz c) l j j (Nat.le_refl _), List.getD_eq_getElem?_getD, List.getElem?_eq_getElem (by rw [xt_len]; exact hlj2)]
            rfl
          have f1 := hown.frozenAt j
          have l2 := hrow.cell (k := j - 64 * m) (by rw [hbl ()]; omega)
          have hk1 := hks (j - 64 * m) (by omega) ()
          rw [show 64 * m + (j - 64 * m) = j by omega] at hk1
          rw [← hk1] at l2
          clear hk1
          have x1 := getD_bd' hl j
          have y1 := ks_bd kz nz c j
          have hst := fun (u : Int) => hown_set hown j u
          have hnx : Unit → xt (ks kz nz c) l (j + 1) = (xt (ks kz nz c) l j).set j (xr (l.getD j 0) (ks kz nz c j)) := fun _ => by rw [xt]
          generalize l.getD j 0 = X at l1 x1 hnx
          generalize ks kz nz c j = Y at l2 y1 hnx
          have hxx : bits BinOp.xor IntKind.u8 X Y = xr X Y := xr8 x1 y1
          have hd1 : (j : Int) - 64 * (m : Int) < 64 := by omega
          have hd2 : 64 * (m : Int) ≤ (j : Int) := by omega
          have hd3 : ((j : Int) - 64 * (m : Int)).toNat = j - 64 * m := by omega
          go_wp2_with fail
          refine wp_region_plan 11 11 [(.h, 0), (.h, 1), (.h, 2), (.h, 3), (.h, 4), (.h, 5), (.h, 6), (.h, 7), (.h, 8), (.h, 9), (.h, 10), (.w, 11)] mixed (by kernel_rfl) (fun dst _ _ _ _ h => by cases dst <;> exact h) ?_
          intro Q' K' hQ' hK'
          simp only [planOps_cons, planOps_nil, getD_zero, getD_succ]
          repeat (first
            | ((first | (with_reducible refine seqC_skip_h rfl ?_) | (with_reducible refine seqC_skip_p rfl ?_) | (with_reducible refine seqC_skip_e rfl ?_) | (with_reducible refine seqC_skip_w rfl ?_) | (with_reducible refine seqC_skip_b hB rfl ?_)); (try simp only [Act.put, List.setIfInBounds_toArray, List.set_cons_zero, List.set_cons_succ]))
            | (refine seqC_h (fun K hK => ?_); go_simp; (try go_bits); refine hK _ ?_; clear hK K)
            | (refine seqC_p (v := ?_) rfl (fun w' => ?_) ?_; rotate_left; go_simp; (try go_bits); (with_reducible rfl); (try simp only [Act.put, List.setIfInBounds_toArray, List.set_cons_zero, List.set_cons_succ]))
            | (refine seqC_e (v := ?_) rfl (fun w' hb' => ?_) ?_; rotate_left; (have hb1 := (bcell hb').1; clear hb'; go_simp; (try go_bits)); (with_reducible rfl); (try simp only [Act.put, List.setIfInBounds_toArray, List.set_cons_zero, List.set_cons_succ]))
            | (refine seqC_w (fun K hK => ?_); go_simp; (try go_bits); refine hK _ _ ?_; clear hK K))
          refine seqC_nil (hK' _ _ ?_)
          clear hK' K' hQ' Q'
          clear l1 f1 l2 hxx x1 y1 hd1 hd2 hd3
          go_wp2_with fail
          go_roundw
          case rel => exact ⟨j + 1, by omega, by omega, by omega, by go_num, by rw [hnx ()]; exact hst _, hrow.drew.setO (by show g ≠ b'; omega) _, bel_set (bel_drew hbel) (by show w.heap.size ≤ b'; omega) _⟩
          case measure => simp [intOf]; omega
        · have hEj : ¬ (j : Int) < E := by rw [← hE]; split <;> omega
          have hje : j = min (64 * (m + 1)) l.length := by omega
          go_wp2_with fail
          go_roundw
          case rel => exact ⟨m + 1, by omega, by go_num, by rw [← hje]; exact hown, hbel⟩
          case measure => simp [intOf]; omega
    · go_wp2_with fail
      go_ret2
      rw [Nat.min_eq_right (by omega)] at hown
      exact ⟨⟨_, rfl, hown⟩, hbel⟩
end Go.Proofs.Ytddiamocnkffjaa
