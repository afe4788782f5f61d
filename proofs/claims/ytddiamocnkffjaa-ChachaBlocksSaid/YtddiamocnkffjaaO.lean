import Derived.Test.YtddiamocnkffjaaN
namespace Go.Proofs.Ytddiamocnkffjaa
open Go.RowKit Go.Proofs Go.Proofs.MyK
set_option linter.unusedSimpArgs false
set_option linter.unusedVariables false
theorem or8_zero {a x y : Int} (ha : 0 ≤ a ∧ a < 256) (hx : 0 ≤ x ∧ x < 256) (hy : 0 ≤ y ∧ y < 256) : 0 ≤ bits .or .u8 a (xr x y) ∧ bits .or .u8 a (xr x y) < 256 ∧ (bits .or .u8 a (xr x y) = 0 ↔ a = 0 ∧ x = y) := by
  have hb := xr_bd8 hx hy
  rw [u8_or a _ ha.1 ha.2 hb.1 hb.2]
  have h1 := Nat.or_lt_two_pow (x := a.toNat) (y := (xr x y).toNat) (n := 8) (by omega) (by omega)
  refine ⟨by omega, by omega, ?_⟩
  have h2 : (xr x y).toNat = x.toNat ^^^ y.toNat := by unfold xr; simp
  rw [h2]
  constructor
  · intro h
    have h3 : a.toNat ||| (x.toNat ^^^ y.toNat) = 0 := by omega
    rw [Nat.or_eq_zero_iff] at h3
    have h4 : x.toNat = y.toNat := by
      have h5 := congrArg (· ^^^ y.toNat) h3.2
      simpa [Nat.xor_assoc] using h5
    omega
  · rintro ⟨rfl, rfl⟩
    simp
set_option maxHeartbeats 4000000 in
theorem equal_calls (v1 v2 : Value) (l1 l2 : List Int) (w : World) (hB1 : Bs w v1 l1) (hB2 : Bs w v2 l2) :
    Calls Try.prog 27 #[v1, v2] w fun e w' => e = .returned (.bool (decide (l1 = l2))) ∧ Below w.heap.size w w' := by
  have hl1 := hB1.1
  have hl2 := hB2.1
  obtain ⟨a1, c1, rfl, hc11, hc12⟩ := hB1.form
  have hnb : l1.length ≤ 9223372036854775807 := by unfold maxLen at hc12; omega
  clear hc11 hc12
  obtain ⟨a2, c2, rfl, _, _⟩ := hB2.form
  have hA1 := fun h => hB1.at h
  have hA2 := fun h => hB2.at h
  clear hB1 hB2
  by_cases hlen : l1.length = l2.length
  · rw [← hlen] at hA2 ⊢
    generalize hn : l1.length = n at hA1 hA2 hnb ⊢
    have hn1 : Unit → l1.length = n := fun _ => hn
    have hn2 : Unit → l2.length = n := fun _ => by rw [← hn, hlen]
    clear hn hlen
    go_enter Try.func27, Try.ntmps27
    go_wp2_with fail
    go_loopw [5, 14] (fun s u wr => ∃ (k : Nat) (acc : Int), k ≤ n ∧ u = .int .i64 (k : Int) ∧ s = .int .u8 acc ∧ 0 ≤ acc ∧ acc < 256 ∧ (acc = 0 ↔ ∀ j, j < k → l1.getD j 0 = l2.getD j 0) ∧ Below w.heap.size w wr) (fun _ u _ => n - (intOf u).toNat)
    case atStart => exact ⟨0, 0, by omega, rfl, rfl, by omega, by omega, by simp, Below.refl _ _⟩
    case round =>
      obtain ⟨k, acc, hk9, rfl, rfl, ha0, ha1, hacc, hbel⟩ := hrel
      by_cases hlt : k < n
      · obtain ⟨b1, o1, rfl, hAt1⟩ := hA1 (by omega)
        obtain ⟨b2, o2, rfl, hAt2⟩ := hA2 (by omega)
        have x1 := (hAt1.below hbel hAt1.lt).cell k hlt
        have x2 := (hAt2.below hbel hAt2.lt).cell k hlt
        have y1 := getD_bd' hl1 k
        have y2 := getD_bd' hl2 k
        have hnx : Unit → ((∀ j, j < k + 1 → l1.getD j 0 = l2.getD j 0) ↔ (∀ j, j < k → l1.getD j 0 = l2.getD j 0) ∧ l1.getD k 0 = l2.getD k 0) := fun _ =>
          ⟨fun h => ⟨fun j hj => h j (by omega), h k (by omega)⟩, fun h j hj => by
            rcases Nat.lt_or_eq_of_le (Nat.le_of_lt_succ hj) with h1 | h1
            · exact h.1 j h1
            · rw [h1]; exact h.2⟩
        generalize l1.getD k 0 = X at x1 y1 hnx
        generalize l2.getD k 0 = Y at x2 y2 hnx
        have hxx : bits BinOp.xor IntKind.u8 X Y = xr X Y := xr8 y1 y2
        have hor := or8_zero ⟨ha0, ha1⟩ y1 y2
        have hkn : (k : Int) < (n : Int) := by omega
        go_wp2_with fail
        refine wp_region_sd mixed (by kernel_rfl) ?_
        repeat (refine wpStill_step (fun K hK => ?_); go_simp; (try go_bits); refine hK _ ?_; clear hK K)
        refine wpStill_nil ?_
        generalize bits BinOp.or IntKind.u8 acc (xr X Y) = A2 at hor ⊢
        go_wp2_with fail
        go_roundw
        case rel => exact ⟨k + 1, A2, by omega, by go_num, rfl, hor.1, hor.2.1, by rw [hnx (), hor.2.2, hacc], bel_drew hbel⟩
        case measure => simp [intOf]; omega
      · obtain rfl : k = n := by omega
        have hdec : decide (l1 = l2) = decide (acc = 0) := by
          rw [decide_eq_decide]
          constructor
          · rintro rfl; rw [hacc]; intro j _; rfl
          · intro h
            rw [hacc] at h
            refine List.ext_getElem (by rw [hn1 (), hn2 ()]) fun i h1 h2 => ?_
            have h3 := h i (by have := hn1 (); omega)
            simpa [List.getD_eq_getElem?_getD, h1, h2] using h3
        have hdu : Unit → decide (l1 = l2) = decide (acc = 0) := fun _ => hdec
        clear hdec
        go_wp2_with fail
        go_ret
        exact ⟨by rw [hdu ()]; first | rfl | (congr 2; rw [Bool.eq_iff_iff]; simp), hbel⟩
  · have hne : Unit → decide (l1 = l2) = false := fun _ => by rw [decide_eq_false_iff_not]; intro e; exact hlen (by rw [e])
    have hni : ¬ ((l1.length : Int) = (l2.length : Int)) := by omega
    go_enter Try.func27, Try.ntmps27
    go_wp2_with fail
    go_ret
    exact ⟨by rw [hne ()]; rfl, Below.refl _ _⟩

/-- What is sealed. -/
def sealL (kz nz : Nat → Int) (la lp : List Int) : List Int := xt (ks kz nz 1) lp lp.length ++ tagL kz nz la (xt (ks kz nz 1) lp lp.length)
theorem tag_len (kz nz : Nat → Int) (l1 l2 : List Int) : (tagL kz nz l1 l2).length = 16 := poly_len _ _
theorem tag_bd (kz nz : Nat → Int) (l1 l2 : List Int) : ∀ x ∈ tagL kz nz l1 l2, 0 ≤ x ∧ x < 256 := poly_bd _ _
theorem Bs.ofRow16 {w : World} {g : Nat} {T : TypeId} {l : List Int} (h : IRow w g T .u8 l) (hl : l.length = 16) (hb : ∀ x ∈ l, 0 ≤ x ∧ x < 256) : Bs w (.slice (some ⟨g, 0, none⟩) 16 16) l := by
  have h1 := Bs.ofAt (c := 16) (l := l) (At.ofRow h (Nat.le_refl _)) hb (by omega) (by unfold maxLen; omega)
  rw [hl] at h1
  exact h1
set_option maxHeartbeats 4000000 in
theorem seal_calls (bk ok ck bn on cn : Nat) (kz nz : Nat → Int) (w : World) (hk : ∀ k, 0 ≤ kz k ∧ kz k < 256) (hn : ∀ k, 0 ≤ nz k ∧ nz k < 256)
    (ck32 : 32 ≤ ck) (cn12 : 12 ≤ cn) (hK : At w bk ok 32 kz) (hN : At w bn on 12 nz) (va vp : Value) (la lp : List Int) (hBa : Bs w va la) (hBp : Bs w vp lp) (hma : la.length ≤ 1000000) (hmp : lp.length ≤ 1000000) :
    Calls Try.prog 15 #[.slice (some ⟨bk, ok, none⟩) 32 ck, .slice (some ⟨bn, on, none⟩) 12 cn, va, vp] w fun e w' => (∃ v', e = .returned (.tuple #[v', .int .i64 0]) ∧ w'.ownsRow w.heap.size 5 1 v' (sealL kz nz la lp).length ((sealL kz nz la lp).map (Value.int .u8))) ∧ Below w.heap.size w w' := by
  obtain ⟨i0, hi, hz0, hz1, hz2⟩ := info_parts infoByte
  have XC := xor_calls bk ok ck bn on cn kz nz 1 w hk hn (by unfold W32; omega) ck32 cn12 hK hN vp lp hBp (by omega)
  have hbd := xt_bd (ks_bd kz nz 1) hBp.1 lp.length
  have hXl : Unit → (xt (ks kz nz 1) lp lp.length).length = lp.length := fun _ => xt_len _ _ _
  have hsl : Unit → sealL kz nz la lp = xt (ks kz nz 1) lp lp.length ++ tagL kz nz la (xt (ks kz nz 1) lp lp.length) := fun _ => rfl
  generalize xt (ks kz nz 1) lp lp.length = X at XC hbd hXl hsl
  go_enter Try.func15, Try.ntmps15
  go_wp2_with fail
  refine XC.mono ?_
  clear XC
  rintro e w1 ⟨⟨v', rfl, hown⟩, hb1⟩
  rw [← hXl ()] at hown
  have hBx := Bs.owns hown hbd
  have TC := tag_calls bk ok ck bn on cn kz nz w1 hk hn ck32 cn12 (hK.belowS hb1) (hN.belowS hb1) va v' la X (hBa.belowS hb1) hBx hma (by rw [hXl ()]; omega)
  obtain ⟨ax, cx, rfl, _, _⟩ := hBx.form
  have ht16 : Unit → (tagL kz nz la X).length = 16 := fun _ => tag_len _ _ _ _
  have htb := tag_bd kz nz la X
  generalize tagL kz nz la X = T at TC ht16 htb hsl
  go_wp2_with fail
  refine TC.mono ?_
  clear TC hBx
  rintro e w2 ⟨⟨g, rfl, hg, hT⟩, hb2⟩
  have hT16 := Bs.ofRow16 hT (ht16 ()) htb
  have hown2 := owns_belowS hown hb2
  have hb12 := below_S hb1 hb2
  have hs12 := hb12.size
  go_wp2_with (at_builtin; refine wpList_append_bs _ rfl _ _ 22 rfl w.heap.size 5 i0 Try.underlying22 hi hz0 hz1 hz2 _ X.length X rfl hown2 _ rfl T hT16 (by rw [ht16 (), hXl ()]; omega) hs12 ?_)
  intro v3 w3 hown3 hgr3 _
  go_wp2_with fail
  go_ret2
  refine ⟨⟨_, rfl, ?_⟩, hb12.grown hgr3 hs12 (fun k hk => (hown2.lt k hk).1)⟩
  rw [hsl (), List.length_append]
  show w3.ownsRow w.heap.size 5 1 v3 _ _
  simpa using hown3

theorem bs_take {w : World} {b off n c : Nat} {l : List Int} (h : Bs w (.slice (some ⟨b, off, none⟩) n c) l) (m : Nat) (hm : m ≤ n) (hn : l.length = n) (hp : 0 < n) (hc : n ≤ c) (hx : c ≤ maxLen) : Bs w (.slice (some ⟨b, off, none⟩) m c) (l.take m) := by
  obtain ⟨b', o', e, hA⟩ := h.at hp
  injection e with e; injection e with e1 e2; subst e1 e2
  have hl : (l.take m).length = m := by simp; omega
  have h1 := Bs.ofAt (c := c) (l := l.take m) (w := w) (b := b) (off := off) ⟨hA.lt, fun k hk => by
    rw [hl] at hk
    rw [hA.cell k (by omega)]
    have h2 : k < l.length := by omega
    simp [List.getD_eq_getElem?_getD, hk, h2]⟩ (fun x hx => h.1 x (List.mem_of_mem_take hx)) (by omega) hx
  rw [hl] at h1
  exact h1
theorem bs_drop {w : World} {b off n c : Nat} {l : List Int} (h : Bs w (.slice (some ⟨b, off, none⟩) n c) l) (m : Nat) (hm : m ≤ n) (hn : l.length = n) (hp : 0 < n) (hc : n ≤ c) (hx : c ≤ maxLen) : Bs w (.slice (some ⟨b, off + m, none⟩) (n - m) (c - m)) (l.drop m) := by
  obtain ⟨b', o', e, hA⟩ := h.at hp
  injection e with e; injection e with e1 e2; subst e1 e2
  have hl : (l.drop m).length = n - m := by simp; omega
  have h1 := Bs.ofAt (c := c - m) (l := l.drop m) (w := w) (b := b) (off := off + m) ⟨hA.lt, fun k hk => by
    rw [hl] at hk
    rw [Nat.add_assoc, hA.cell (m + k) (by omega)]
    simp [List.getD_eq_getElem?_getD, List.getElem?_drop]⟩ (fun x hx => h.1 x (List.mem_of_mem_drop hx)) (by omega) (by omega)
  rw [hl] at h1
  exact h1
theorem slice_to (b off n c i : Nat) (hi : i ≤ c) (ix : Int) (hx : ix = (i : Int)) (W : World) : (Instr.slice 22 (.slice (some ⟨b, off, none⟩) n c) none (some (.int .i64 ix)) none).run Try.prog W = .ok (.slice (some ⟨b, off, none⟩) i c) W := by
  subst hx
  have hs : (sizeOf (Try.prog.elem 22)).run Try.prog W = .ok 1 W := by kernel_rfl
  rw [run_slice_h (P := Try.prog) W 22 _ n c (by kernel_rfl) .i64 _ (by omega) (by omega), hs]
  by_cases h1 : c = 0
  · simp [sliced, h1, Addr.add]
  · simp [sliced, h1, Addr.add]
set_option maxHeartbeats 4000000 in
theorem open_short (bk ok ck bn on cn : Nat) (va : Value) (sp : Option Addr) (n cs : Nat) (w : World) (h : n < 16) :
    Calls Try.prog 16 #[.slice (some ⟨bk, ok, none⟩) 32 ck, .slice (some ⟨bn, on, none⟩) 12 cn, va, .slice sp n cs] w fun e w' => e = .returned (.tuple #[.slice none 0 0, .int .i64 5]) ∧ Below w.heap.size w w' := by
  have hneg : (n : Int) - 16 < 0 := by omega
  have hneg2 : (n : Int) < 16 := by omega
  go_enter Try.func16, Try.ntmps16
  go_wp2_with fail
  refine wp_region_plan 9 9 [(.h, 0), (.h, 1), (.h, 2), (.h, 3), (.h, 4), (.h, 5), (.h, 6), (.h, 7), (.h, 8), (.p, 10), (.p, 11), (.p, 12), (.w, 9), (.w, 13), (.p, 14), (.p, 15)] mixed (by kernel_rfl) (fun dst _ _ _ _ h => by cases dst <;> exact h) ?_
  intro Q' K' hQ' hK'
  simp only [planOps_cons, planOps_nil, getD_zero, getD_succ]
  repeat (first
    | ((first | (with_reducible refine seqC_skip_h rfl ?_) | (with_reducible refine seqC_skip_p rfl ?_) | (with_reducible refine seqC_skip_e rfl ?_) | (with_reducible refine seqC_skip_w rfl ?_) | (with_reducible refine seqC_skip_b hB rfl ?_)); (try simp only [Act.put, List.setIfInBounds_toArray, List.set_cons_zero, List.set_cons_succ]))
    | (refine seqC_h (fun K hK => ?_); go_simp; (try go_bits); refine hK _ ?_; clear hK K)
    | (refine seqC_p (v := ?_) rfl (fun w' => ?_) ?_; rotate_left; go_simp; (try go_bits); (with_reducible rfl); (try simp only [Act.put, List.setIfInBounds_toArray, List.set_cons_zero, List.set_cons_succ]))
    | (refine seqC_e (v := ?_) rfl (fun w' hb' => ?_) ?_; rotate_left; (have hb1 := (bcell hb').1; clear hb'; go_simp; (try go_bits)); (with_reducible rfl); (try simp only [Act.put, List.setIfInBounds_toArray, List.set_cons_zero, List.set_cons_succ]))
    | (refine seqC_w (fun K hK => ?_); go_simp; (try go_bits); refine hK _ _ ?_; clear hK K))
  refine seqC_nil (hK' _ _ ?_)
  clear hK' K' hQ' Q'
  go_wp2_with fail
  go_ret2
  exact ⟨rfl, bel_drew (Below.refl _ _)⟩

set_option maxHeartbeats 4000000 in
theorem open_calls (bk ok ck bn on cn : Nat) (kz nz : Nat → Int) (w : World) (hk : ∀ k, 0 ≤ kz k ∧ kz k < 256) (hn : ∀ k, 0 ≤ nz k ∧ nz k < 256)
    (ck32 : 32 ≤ ck) (cn12 : 12 ≤ cn) (hK : At w bk ok 32 kz) (hN : At w bn on 12 nz) (va : Value) (la : List Int) (hBa : Bs w va la) (hma : la.length ≤ 1000000)
    (b off n c m : Nat) (l : List Int) (hB : Bs w (.slice (some ⟨b, off, none⟩) n c) l) (hln : l.length = n) (hnm : n = m + 16) (hm : m ≤ 1000000) (hc : n ≤ c) (hcx : c ≤ maxLen) (ok1 : Bool) (hok : ok1 = decide (tagL kz nz la (l.take m) = l.drop m)) :
    Calls Try.prog 16 #[.slice (some ⟨bk, ok, none⟩) 32 ck, .slice (some ⟨bn, on, none⟩) 12 cn, va, .slice (some ⟨b, off, none⟩) n c] w fun e w' =>
      (if ok1 = true then (∃ v', e = .returned (.tuple #[v', .int .i64 0]) ∧ w'.ownsRow w.heap.size 5 1 v' m ((xt (ks kz nz 1) (l.take m) m).map (Value.int .u8))) else e = .returned (.tuple #[.slice none 0 0, .int .i64 5])) ∧ Below w.heap.size w w' := by
  have hBt := bs_take hB m (by omega) hln (by omega) hc hcx
  have hBd := bs_drop hB m (by omega) hln (by omega) hc hcx
  have htl : (l.take m).length = m := by simp; omega
  rw [show n - m = 16 by omega] at hBd
  have s1 := slice_to b off n c m (by omega) ((n : Int) - 16) (by omega)
  have s2 := slice_from b off n c m (by omega) (by omega) ((n : Int) - 16) (by omega)
  rw [show n - m = 16 by omega] at s2
  have TC := Lib.hid (fun (W : World) (hb : Below w.heap.size w W) => tag_calls bk ok ck bn on cn kz nz W hk hn ck32 cn12 (hK.below hb hK.lt) (hN.below hb hN.lt) va (.slice (some ⟨b, off, none⟩) m c) la (l.take m) (Bs_below hBa hb) (Bs_below hBt hb) hma (by omega))
  have XC := Lib.hid (fun (W : World) (hb : Below w.heap.size w W) => xor_calls bk ok ck bn on cn kz nz 1 W hk hn (by unfold W32; omega) ck32 cn12 (hK.below hb hK.lt) (hN.below hb hN.lt) (.slice (some ⟨b, off, none⟩) m c) (l.take m) (Bs_below hBt hb) (by omega))
  have ht16 : Unit → (tagL kz nz la (l.take m)).length = 16 := fun _ => tag_len _ _ _ _
  have htb := tag_bd kz nz la (l.take m)
  rw [htl] at XC
  clear htl hB hln hK hN hBa hBt
  generalize xt (ks kz nz 1) (l.take m) m = X at XC ⊢
  generalize tagL kz nz la (l.take m) = T at TC ht16 htb hok
  generalize l.drop m = D at hBd hok
  subst hnm
  rw [show ((m + 16 : Nat) : Int) - 16 = (m : Int) by omega] at s1 s2
  cases ok1 with
  | true =>
    have hdt : decide (T = D) = true := hok.symm
    have hTD : T = D := of_decide_eq_true hdt
    clear hok
    go_enter Try.func16, Try.ntmps16
    go_wp2_with fail
    have hbd : Below w.heap.size w w.drew := bel_drew (Below.refl _ _)
    refine wp_region_plan 9 9 [(.h, 0), (.h, 1), (.h, 2), (.h, 3), (.h, 4), (.h, 5), (.h, 6), (.h, 7), (.h, 8), (.p, 10), (.p, 11), (.p, 12), (.w, 9), (.w, 13), (.p, 14), (.p, 15)] mixed (by kernel_rfl) (fun dst _ _ _ _ h => by cases dst <;> exact h) ?_
    intro Q' K' hQ' hK'
    simp only [planOps_cons, planOps_nil, getD_zero, getD_succ]
    repeat (first
      | (refine seqC_w (fun K hK => ?_); go_simp; go_at_call 26; (with_reducible refine (TC.out _ hbd).mono ?_); rintro e w1 ⟨⟨g, rfl, hg, hT⟩, hb1⟩; have hT16 := Bs.ofRow16 hT (ht16 ()) htb; have hb2 := below_S hbd hb1; have hD2 := Bs_below hBd hb2; refine hK _ _ ?_; clear hb1 hK K)
      | (refine seqC_w (fun K hK => ?_); go_simp; go_at_call 27; (with_reducible refine (equal_calls _ _ T D _ hT16 hD2).mono ?_); rintro e w2 ⟨rfl, hb1⟩; have hb3 := below_S hb2 hb1; refine hK _ _ ?_; clear hb1 hK K)
      | ((first | (with_reducible refine seqC_skip_h rfl ?_) | (with_reducible refine seqC_skip_p rfl ?_) | (with_reducible refine seqC_skip_e rfl ?_) | (with_reducible refine seqC_skip_w rfl ?_) | (with_reducible refine seqC_skip_b hB rfl ?_)); (try simp only [Act.put, List.setIfInBounds_toArray, List.set_cons_zero, List.set_cons_succ]))
      | (refine seqC_h (fun K hK => ?_); go_simp; (try go_bits); refine hK _ ?_; clear hK K)
      | (refine seqC_p (v := ?_) rfl (fun w' => ?_) ?_; rotate_left; go_simp; (try go_bits); (with_reducible rfl); (try simp only [Act.put, List.setIfInBounds_toArray, List.set_cons_zero, List.set_cons_succ]))
      | (refine seqC_e (v := ?_) rfl (fun w' hb' => ?_) ?_; rotate_left; (have hb1 := (bcell hb').1; clear hb'; go_simp; (try go_bits)); (with_reducible rfl); (try simp only [Act.put, List.setIfInBounds_toArray, List.set_cons_zero, List.set_cons_succ]))
      | (refine seqC_w (fun K hK => ?_); go_simp; (try go_bits); refine hK _ _ ?_; clear hK K))
    refine seqC_nil (hK' _ _ ?_)
    clear hK' K' hQ' Q'
    clear hT16 hD2 hT
    go_wp2_with fail
    refine (XC.out _ hb3).mono ?_
    rintro e w3 ⟨⟨v', rfl, hown⟩, hb4⟩
    have hb5 := below_S hb3 hb4
    have hown' := hown.mono hb3.size
    clear hown
    go_wp2_with fail
    go_ret2
    exact ⟨⟨_, rfl, hown'⟩, hb5⟩
  | false =>
    have hdt : decide (T = D) = false := hok.symm
    have hTD : ¬ T = D := of_decide_eq_false hdt
    clear hok
    go_enter Try.func16, Try.ntmps16
    go_wp2_with fail
    have hbd : Below w.heap.size w w.drew := bel_drew (Below.refl _ _)
    refine wp_region_plan 9 9 [(.h, 0), (.h, 1), (.h, 2), (.h, 3), (.h, 4), (.h, 5), (.h, 6), (.h, 7), (.h, 8), (.p, 10), (.p, 11), (.p, 12), (.w, 9), (.w, 13), (.p, 14), (.p, 15)] mixed (by kernel_rfl) (fun dst _ _ _ _ h => by cases dst <;> exact h) ?_
    intro Q' K' hQ' hK'
    simp only [planOps_cons, planOps_nil, getD_zero, getD_succ]
    repeat (first
      | (refine seqC_w (fun K hK => ?_); go_simp; go_at_call 26; (with_reducible refine (TC.out _ hbd).mono ?_); rintro e w1 ⟨⟨g, rfl, hg, hT⟩, hb1⟩; have hT16 := Bs.ofRow16 hT (ht16 ()) htb; have hb2 := below_S hbd hb1; have hD2 := Bs_below hBd hb2; refine hK _ _ ?_; clear hb1 hK K)
      | (refine seqC_w (fun K hK => ?_); go_simp; go_at_call 27; (with_reducible refine (equal_calls _ _ T D _ hT16 hD2).mono ?_); rintro e w2 ⟨rfl, hb1⟩; have hb3 := below_S hb2 hb1; refine hK _ _ ?_; clear hb1 hK K)
      | ((first | (with_reducible refine seqC_skip_h rfl ?_) | (with_reducible refine seqC_skip_p rfl ?_) | (with_reducible refine seqC_skip_e rfl ?_) | (with_reducible refine seqC_skip_w rfl ?_) | (with_reducible refine seqC_skip_b hB rfl ?_)); (try simp only [Act.put, List.setIfInBounds_toArray, List.set_cons_zero, List.set_cons_succ]))
      | (refine seqC_h (fun K hK => ?_); go_simp; (try go_bits); refine hK _ ?_; clear hK K)
      | (refine seqC_p (v := ?_) rfl (fun w' => ?_) ?_; rotate_left; go_simp; (try go_bits); (with_reducible rfl); (try simp only [Act.put, List.setIfInBounds_toArray, List.set_cons_zero, List.set_cons_succ]))
      | (refine seqC_e (v := ?_) rfl (fun w' hb' => ?_) ?_; rotate_left; (have hb1 := (bcell hb').1; clear hb'; go_simp; (try go_bits)); (with_reducible rfl); (try simp only [Act.put, List.setIfInBounds_toArray, List.set_cons_zero, List.set_cons_succ]))
      | (refine seqC_w (fun K hK => ?_); go_simp; (try go_bits); refine hK _ _ ?_; clear hK K))
    refine seqC_nil (hK' _ _ ?_)
    clear hK' K' hQ' Q'
    clear hT16 hD2 hT
    go_wp2_with fail
    go_ret2
    exact ⟨rfl, hb3⟩
end Go.Proofs.Ytddiamocnkffjaa
