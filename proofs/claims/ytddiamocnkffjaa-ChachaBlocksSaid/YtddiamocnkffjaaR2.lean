/-
  A drawn region by an invariant over what has come up: one obligation an operation, whatever the order. And the shape 'x, y := f(u), g(v)' of two new variables.
-/
import Derived.Test.YtddiamocnkffjaaK2
namespace Go.Proofs.MyK
open Go.RowKit
section
variable {P : Program} {ops : Array Oper} {Q : Exit → Act → World → Prop} {md : Region.Mode}

/-- Every edge leads back. -/
def backB (md : Region.Mode) (ops : Array Oper) : Bool := (List.range ops.size).all fun i => match ops[i]? with | some o => o.after.all (fun e => !Region.binds md e || decide (e.on < i)) | none => true

theorem least_ready (hb : backB md ops = true) {L : Array Bool} (hs : L.size = ops.size) : ∀ (n i : Nat), i ≤ n → i < ops.size → L.getD i false = false → Region.ready md ops L ≠ [] := by
  intro n
  induction n with
  | zero =>
    intro i hi hlt hu h0
    have : i = 0 := by omega
    subst this
    have hm : (0 : Nat) ∈ Region.ready md ops L := by
      refine mem_ready.2 ⟨getD_in (by omega) hu, ops[0], by simp [hlt], fun e he hbd => ?_⟩
      have h1 := List.all_eq_true.1 hb 0 (List.mem_range.2 hlt)
      simp only [hlt, getElem?_pos, Array.all_eq_true_iff_forall_mem] at h1
      have h2 := h1 e he
      simp [hbd] at h2
    rw [h0] at hm; cases hm
  | succ n ih =>
    intro i hi hlt hu h0
    by_cases hall : ∀ e ∈ ops[i].after, Region.binds md e = true → L.getD e.on false = true
    · have hm : i ∈ Region.ready md ops L := mem_ready.2 ⟨getD_in (by omega) hu, ops[i], by simp [hlt], hall⟩
      rw [h0] at hm; cases hm
    · obtain ⟨e, he, hbd, hne⟩ : ∃ e, e ∈ ops[i].after ∧ Region.binds md e = true ∧ ¬ L.getD e.on false = true := by
        refine Classical.byContradiction fun hc => hall fun e he hbd => Classical.byContradiction fun hn => hc ⟨e, he, hbd, hn⟩
      have h1 := List.all_eq_true.1 hb i (List.mem_range.2 hlt)
      simp only [hlt, getElem?_pos, Array.all_eq_true_iff_forall_mem] at h1
      have h2 := h1 e he
      simp [hbd] at h2
      exact ih e.on (by omega) (by omega) (by simpa using hne) h0

def countU (L : Array Bool) : Nat := L.toList.countP (fun b => !b)
theorem countP_set_true : ∀ (l : List Bool) (i : Nat) (h : i < l.length), l[i] = false → (l.set i true).countP (fun b => !b) + 1 = l.countP (fun b => !b)
  | [], i, h, _ => by simp at h
  | x :: l, 0, _, hv => by simp at hv; subst hv; simp
  | x :: l, i + 1, h, hv => by
    have := countP_set_true l i (by simpa using h) (by simpa using hv)
    simp only [List.set_cons_succ, List.countP_cons]
    omega
theorem countU_set {L : Array Bool} {i : Nat} (h : L.getD i true = false) : countU (L.setIfInBounds i true) + 1 = countU L := by
  have hlt : i < L.size := by
    rcases Nat.lt_or_ge i L.size with h' | h'
    · exact h'
    · simp [h'] at h
  have hv : L[i] = false := by simpa [hlt] using h
  unfold countU
  rw [Array.toList_setIfInBounds]
  exact countP_set_true L.toList i (by simpa using hlt) (by simpa using hv)

theorem wpAny_inv (hb : backB md ops = true) (Inv : (Nat → Bool) → Act → World → Prop)
    (hstep : ∀ i o, ops[i]? = some o → ∀ L : Nat → Bool, (∀ e ∈ o.after, Region.binds md e = true → L e.on = true) → L i = false → ∀ a w, Inv L a w → wpO P ops Q o (fun a' w' => Inv (fun k => k == i || L k) a' w') a w)
    (hend : ∀ L a w, (∀ i, i < ops.size → L i = true) → Inv L a w → Q .normal a w) :
    ∀ (f : Nat) (L : Array Bool) (a : Act) (w : World), L.size = ops.size → countU L = f → Inv (fun k => L.getD k false) a w → wpAny P md ops Q f L a w := by
  intro f
  induction f with
  | zero =>
    intro L a w hs hc hI
    have hall : ∀ i, i < ops.size → L.getD i false = true := by
      intro i hi
      cases hl : L.getD i false with
      | true => rfl
      | false =>
        have := countU_set (getD_in (by omega : i < L.size) hl)
        omega
    refine ⟨?_, hend _ a w hall hI⟩
    cases hr : Region.ready md ops L with
    | nil => rfl
    | cons x r =>
      have hm : x ∈ Region.ready md ops L := by rw [hr]; simp
      obtain ⟨hu, o, ho, _⟩ := mem_ready.1 hm
      have := hall x (Array.getElem?_eq_some_iff.1 ho).1
      rw [getD_both hu] at this; cases this
  | succ f ih =>
    intro L a w hs hc hI
    refine ⟨fun h0 => ?_, fun i hi => ?_⟩
    · exfalso
      obtain ⟨i, hi, hu⟩ : ∃ i, i < ops.size ∧ L.getD i false = false := by
        refine Classical.byContradiction fun hn => ?_
        have hall : ∀ b ∈ L.toList, b = true := by
          intro b hb'
          obtain ⟨k, hk, rfl⟩ := List.getElem_of_mem hb'
          cases hv : L.toList[k] with
          | true => rfl
          | false => exact absurd ⟨k, by simpa [hs] using hk, by simp at hk; simp [hk]; simpa using hv⟩ hn
        have : countU L = 0 := by
          unfold countU; rw [List.countP_eq_zero]; intro b hb'; simp [hall b hb']
        omega
      exact least_ready hb hs i i (Nat.le_refl _) hi hu h0
    · obtain ⟨hu, o, ho, hall⟩ := mem_ready.1 hi
      refine wpOp_mono (fun a' w' h' => ih _ a' w' (by simp [hs]) (by have := countU_set hu; omega) ?_) (wpOp_of_wpO ho (hstep i o ho _ hall (getD_both hu) a w hI))
      have e : (fun k => (L.setIfInBounds i true).getD k false) = (fun k => k == i || L.getD k false) := by
        funext k
        by_cases hk : i = k
        · subst hk
          have hlt : i < L.size := by rw [hs]; exact (Array.getElem?_eq_some_iff.1 ho).1
          simp [hlt]
        · rw [getD_set_ne false hk]
          have : (k == i) = false := by simpa using fun h => hk h.symm
          simp [this]
      rw [e]; exact h'

theorem countU_start (n : Nat) : countU (Array.replicate n false) = n := by
  simp [countU, List.countP_replicate]

theorem wp_region_inv {id : Nat} {a : Act} {w : World} {l : List Oper} (hm : P.follows .mixedOrders = true) (hb : backB .any l.toArray = true) (Inv : (Nat → Bool) → Act → World → Prop)
    (h0 : Inv (fun _ => false) a w.drew)
    (hstep : ∀ i o, l[i]? = some o → ∀ L : Nat → Bool, (∀ e ∈ o.after, Region.binds .any e = true → L e.on = true) → L i = false → ∀ a w, Inv L a w → wpO P l.toArray Q o (fun a' w' => Inv (fun k => k == i || L k) a' w') a w)
    (hend : ∀ L a w, (∀ i, i < l.length → L i = true) → Inv L a w → Q .normal a w) : (Code.region id l.toArray true).wp P Q a w := by
  refine wp_region_any hm ?_
  refine wpAny_inv hb Inv (fun i o ho => hstep i o (by simpa using ho)) (fun L a w h => hend L a w (by simpa using h)) _ _ a w.drew (by simp) (countU_start _) ?_
  have e : (fun k => (Array.replicate l.toArray.size false).getD k false) = (fun _ => false) := by
    funext k; exact getD_replicate_false _ _
  rw [e]; exact h0

/-! ### 'x, y := f(u), g(v)': two values are reckoned, two variables are made, and the values are laid into them -/
theorem put_get (a : Act) (d t : Nat) (v : Value) (hd : d < a.tmps.size) : (a.put (some d) v).tmps[t]? = if d = t then some v else a.tmps[t]? := by
  simp only [Act.put]
  by_cases h : d = t
  · subst h; simp [hd]
  · rw [Array.getElem?_setIfInBounds_ne h, if_neg h]
theorem put_size (a : Act) (d : Nat) (v : Value) : (a.put (some d) v).tmps.size = a.tmps.size := by simp [Act.put]

theorem put_defers (a : Act) (d : Nat) (v : Value) : (a.put (some d) v).defers = a.defers := rfl

/-- What is known of the frame: of six slots those that have come up hold their values; every other slot is as it was. -/
structure Slots (a0 : Act) (ds : Nat → Nat) (vals : Nat → Value) (L : Nat → Bool) (a : Act) : Prop where
  defers : a.defers = a0.defers
  size : a.tmps.size = a0.tmps.size
  rest : ∀ t, (∀ i, i < 6 → ds i ≠ t) → a.tmps[t]? = a0.tmps[t]?
  val : ∀ i, i < 6 → L i = true → a.tmps[ds i]? = some (vals i)

theorem Slots.put {a0 : Act} {ds : Nat → Nat} {vals : Nat → Value} {L : Nat → Bool} {a : Act} (h : Slots a0 ds vals L a) (hinj : ∀ i j, i < 6 → j < 6 → ds i = ds j → i = j) (hlt : ∀ i, i < 6 → ds i < a0.tmps.size) {i : Nat} (hi : i < 6) :
    Slots a0 ds vals (fun k => k == i || L k) (a.put (some (ds i)) (vals i)) where
  defers := h.defers
  size := by rw [put_size]; exact h.size
  rest := fun t ht => by rw [put_get _ _ _ _ (by rw [h.size]; exact hlt i hi), if_neg (ht i hi)]; exact h.rest t ht
  val := fun j hj hL => by
    rw [put_get _ _ _ _ (by rw [h.size]; exact hlt i hi)]
    by_cases hij : ds i = ds j
    · have := hinj i j hi hj hij; subst this; simp
    · rw [if_neg hij]
      refine h.val j hj ?_
      simp only [Bool.or_eq_true, beq_iff_eq] at hL
      rcases hL with hL | hL
      · subst hL; exact absurd rfl hij
      · exact hL
theorem Slots.noput {a0 : Act} {ds : Nat → Nat} {vals : Nat → Value} {L : Nat → Bool} {a : Act} (h : Slots a0 ds vals L a) {i : Nat} (hi : 6 ≤ i) : Slots a0 ds vals (fun k => k == i || L k) a :=
  ⟨h.defers, h.size, h.rest, fun j hj hL => h.val j hj (by
    simp only [Bool.or_eq_true, beq_iff_eq] at hL
    rcases hL with hL | hL
    · omega
    · exact hL)⟩
theorem Slots.vals_of {a0 : Act} {ds : Nat → Nat} {vals vals' : Nat → Value} {L : Nat → Bool} {a : Act} (h : Slots a0 ds vals L a) (hv : ∀ i, i < 6 → L i = true → vals i = vals' i) : Slots a0 ds vals' L a :=
  ⟨h.defers, h.size, h.rest, fun i hi hL => by rw [h.val i hi hL, hv i hi hL]⟩

theorem act_eq {a b : Act} (hd : a.defers = b.defers) (hs : a.tmps.size = b.tmps.size) (h : ∀ t, t < b.tmps.size → a.tmps[t]? = b.tmps[t]?) : a = b := by
  have ht : a.tmps = b.tmps := Array.ext_getElem? fun i => (by
    rcases Nat.lt_or_ge i b.tmps.size with hi | hi
    · exact h i hi
    · rw [Array.getElem?_eq_none (by omega), Array.getElem?_eq_none hi])
  cases a; cases b
  cases ht; cases hd; rfl

theorem Slots.done {a0 : Act} {ds : Nat → Nat} {vals : Nat → Value} {L : Nat → Bool} {a : Act} (h : Slots a0 ds vals L a) (hall : ∀ i, i < 6 → L i = true) (_hinj : ∀ i j, i < 6 → j < 6 → ds i = ds j → i = j) (hlt : ∀ i, i < 6 → ds i < a0.tmps.size) :
    a = ((((((a0.put (some (ds 0)) (vals 0)).put (some (ds 1)) (vals 1)).put (some (ds 2)) (vals 2)).put (some (ds 3)) (vals 3)).put (some (ds 4)) (vals 4)).put (some (ds 5)) (vals 5)) := by
  refine act_eq (by simp only [put_defers]; exact h.defers) (by simp only [put_size]; exact h.size) fun t _ => ?_
  rw [put_get _ _ _ _ (by simp only [put_size]; exact hlt 5 (by omega)), put_get _ _ _ _ (by simp only [put_size]; exact hlt 4 (by omega)), put_get _ _ _ _ (by simp only [put_size]; exact hlt 3 (by omega)),
    put_get _ _ _ _ (by simp only [put_size]; exact hlt 2 (by omega)), put_get _ _ _ _ (by simp only [put_size]; exact hlt 1 (by omega)), put_get _ _ _ _ (hlt 0 (by omega))]
  by_cases h5 : ds 5 = t
  · rw [if_pos h5, ← h5]; exact h.val 5 (by omega) (hall 5 (by omega))
  by_cases h4 : ds 4 = t
  · rw [if_neg h5, if_pos h4, ← h4]; exact h.val 4 (by omega) (hall 4 (by omega))
  by_cases h3 : ds 3 = t
  · rw [if_neg h5, if_neg h4, if_pos h3, ← h3]; exact h.val 3 (by omega) (hall 3 (by omega))
  by_cases h2 : ds 2 = t
  · rw [if_neg h5, if_neg h4, if_neg h3, if_pos h2, ← h2]; exact h.val 2 (by omega) (hall 2 (by omega))
  by_cases h1 : ds 1 = t
  · rw [if_neg h5, if_neg h4, if_neg h3, if_neg h2, if_pos h1, ← h1]; exact h.val 1 (by omega) (hall 1 (by omega))
  by_cases h0 : ds 0 = t
  · rw [if_neg h5, if_neg h4, if_neg h3, if_neg h2, if_neg h1, if_pos h0, ← h0]; exact h.val 0 (by omega) (hall 0 (by omega))
  rw [if_neg h5, if_neg h4, if_neg h3, if_neg h2, if_neg h1, if_neg h0]
  refine h.rest t fun i hi => ?_
  have : i = 0 ∨ i = 1 ∨ i = 2 ∨ i = 3 ∨ i = 4 ∨ i = 5 := by omega
  rcases this with rfl | rfl | rfl | rfl | rfl | rfl <;> assumption

def vals6 (u0 v1 u2 v3 : Value) (p q : Nat) : Nat → Value
  | 0 => u0 | 1 => v1 | 2 => u2 | 3 => v3 | 4 => .pointer (some ⟨p, 0, none⟩) | _ => .pointer (some ⟨q, 0, none⟩)
def slot6 (d0 d1 d2 d3 d4 d5 : Nat) : Nat → Nat
  | 0 => d0 | 1 => d1 | 2 => d2 | 3 => d3 | 4 => d4 | _ => d5

theorem lt6 {i : Nat} (h : i < 6) : i = 0 ∨ i = 1 ∨ i = 2 ∨ i = 3 ∨ i = 4 ∨ i = 5 := by omega
theorem slot6_inj {d0 d1 d2 d3 d4 d5 : Nat} (h : ((List.range 6).all fun i => (List.range 6).all fun j => (slot6 d0 d1 d2 d3 d4 d5 i != slot6 d0 d1 d2 d3 d4 d5 j) || i == j) = true) : ∀ i j, i < 6 → j < 6 → slot6 d0 d1 d2 d3 d4 d5 i = slot6 d0 d1 d2 d3 d4 d5 j → i = j := by
  intro i j hi hj he
  have h1 := List.all_eq_true.1 (List.all_eq_true.1 h i (List.mem_range.2 hi)) j (List.mem_range.2 hj)
  rw [he] at h1
  simpa using h1
theorem slot6_lt {d0 d1 d2 d3 d4 d5 n : Nat} (h : ((List.range 6).all fun i => decide (slot6 d0 d1 d2 d3 d4 d5 i < n)) = true) : ∀ i, i < 6 → slot6 d0 d1 d2 d3 d4 d5 i < n := by
  intro i hi
  simpa using List.all_eq_true.1 h i (List.mem_range.2 hi)
theorem slot6_ne {d0 d1 d2 d3 d4 d5 t : Nat} (h : ((List.range 6).all fun i => slot6 d0 d1 d2 d3 d4 d5 i != t) = true) : ∀ i, i < 6 → slot6 d0 d1 d2 d3 d4 d5 i ≠ t := by
  intro i hi
  simpa using List.all_eq_true.1 h i (List.mem_range.2 hi)
theorem eval_tmp {a : Act} {t : Nat} {v : Value} (h : a.tmps[t]? = some v) : a.eval (.tmp t) = v := by
  simp only [Act.eval, Array.getD_eq_getD_getElem?]; rw [h]; rfl

structure TwoMem (w0 : World) (T1 T2 : TypeId) (z1 c1 z2 c2 : List Value) (p q : Nat) (L : Nat → Bool) (w : World) : Prop where
  bel : Below w0.heap.size w0 w
  row1 : L 4 = true → w0.heap.size ≤ p ∧ VRow w p T1 (if L 6 then c1 else z1)
  row2 : L 5 = true → w0.heap.size ≤ q ∧ VRow w q T2 (if L 7 then c2 else z2)
  ne : L 4 = true → L 5 = true → p ≠ q
  d6 : L 6 = true → L 4 = true
  d7 : L 7 = true → L 5 = true

theorem TwoMem.move {w0 : World} {T1 T2 : TypeId} {z1 c1 z2 c2 : List Value} {p q : Nat} {L : Nat → Bool} {w w' : World} (h : TwoMem w0 T1 T2 z1 c1 z2 c2 p q L w) (hb : Below w.heap.size w w') {i : Nat} (hi : i < 4) : TwoMem w0 T1 T2 z1 c1 z2 c2 p q (fun k => k == i || L k) w' := by
  have e : ∀ k, 4 ≤ k → (k == i || L k) = L k := fun k hk => by
    have : (k == i) = false := by simpa using (by omega : k ≠ i)
    simp [this]
  refine ⟨below_S h.bel hb, ?_, ?_, ?_, ?_, ?_⟩ <;> simp only [e 4 (by omega), e 5 (by omega), e 6 (by omega), e 7 (by omega)]
  · exact fun h4 => ⟨(h.row1 h4).1, (h.row1 h4).2.belowS hb⟩
  · exact fun h5 => ⟨(h.row2 h5).1, (h.row2 h5).2.belowS hb⟩
  · exact h.ne
  · exact h.d6
  · exact h.d7

theorem results_vrow_tmp {fn : Func} {p u : Tmp} {ty : TypeId} (h : fn.results = #[.cell p ty, .tmp u]) (tmps : Array Value) (w : World) (g : Nat) (t : TypeId) (cs : List Value) (d : TypeDesc)
    (hp : tmps.getD p undef = .pointer (some ⟨g, 0, none⟩)) (hg : VRow w g t cs)
    (hu : P.underlying ty = some d) (hd : (match d with | .struct _ | .array _ _ => true | _ => false) = true) (hi : (P.info? ty).map (·.size) = some cs.length) :
    (results fn tmps).run P w = .ok (.tuple #[.agg cs.toArray, tmps.getD u undef]) w := by
  have hp' : tmps[p]?.getD undef = .pointer (some ⟨g, 0, none⟩) := by simpa using hp
  simp [results, h, hp', asAddr, run_loadVar_row w g t ty cs.toArray (0, 0) d hg hu hd (by simpa using hi)]

theorem belD {w w' : World} (h : Below w.drew.heap.size w.drew w') : Below w.heap.size w w' := below_S (bel_drew (Below.refl w.heap.size w)) h

theorem wp_region_two {id : Nat} {a0 : Act} {w : World} {o0 o1 o2 o3 o4 o5 o6 o7 : Oper} (hm : P.follows .mixedOrders = true) (hb : backB .any #[o0, o1, o2, o3, o4, o5, o6, o7] = true)
    (d0 d1 d2 d3 d4 d5 : Nat) (T1 T2 : TypeId) (u0 v1 u2 v3 : Value) (z1 c1 z2 c2 : List Value)
    (hg : o0.guard = none ∧ o1.guard = none ∧ o2.guard = none ∧ o3.guard = none ∧ o4.guard = none ∧ o5.guard = none ∧ o6.guard = none ∧ o7.guard = none)
    (hd : o0.dst = some d0 ∧ o1.dst = some d1 ∧ o2.dst = some d2 ∧ o3.dst = some d3 ∧ o4.dst = some d4 ∧ o5.dst = some d5 ∧ o6.dst = none ∧ o7.dst = none)
    (hinj : ∀ i j, i < 6 → j < 6 → slot6 d0 d1 d2 d3 d4 d5 i = slot6 d0 d1 d2 d3 d4 d5 j → i = j) (hlt : ∀ i, i < 6 → slot6 d0 d1 d2 d3 d4 d5 i < a0.tmps.size)
    (w1 : Region.waitsFor .any #[o0, o1, o2, o3, o4, o5, o6, o7] 1 0 = true) (w3 : Region.waitsFor .any #[o0, o1, o2, o3, o4, o5, o6, o7] 3 2 = true)
    (w61 : Region.waitsFor .any #[o0, o1, o2, o3, o4, o5, o6, o7] 6 1 = true) (w64 : Region.waitsFor .any #[o0, o1, o2, o3, o4, o5, o6, o7] 6 4 = true)
    (w73 : Region.waitsFor .any #[o0, o1, o2, o3, o4, o5, o6, o7] 7 3 = true) (w75 : Region.waitsFor .any #[o0, o1, o2, o3, o4, o5, o6, o7] 7 5 = true)
    (h0 : ∀ (a : Act) (w' : World), (∀ t, (∀ i, i < 6 → slot6 d0 d1 d2 d3 d4 d5 i ≠ t) → a.tmps[t]? = a0.tmps[t]?) → Below w.heap.size w w' → (execOp a.eval o0).run P w' = .ok (.value u0) w')
    (h2 : ∀ (a : Act) (w' : World), (∀ t, (∀ i, i < 6 → slot6 d0 d1 d2 d3 d4 d5 i ≠ t) → a.tmps[t]? = a0.tmps[t]?) → Below w.heap.size w w' → (execOp a.eval o2).run P w' = .ok (.value u2) w')
    (h1 : ∀ (a : Act) (w' : World) (K : Act → World → Prop), a.tmps[d0]? = some u0 → (∀ w'', Below w'.heap.size w' w'' → K (a.put (some d1) v1) w'') → o1.wp P a w' K Q)
    (h3 : ∀ (a : Act) (w' : World) (K : Act → World → Prop), a.tmps[d2]? = some u2 → (∀ w'', Below w'.heap.size w' w'' → K (a.put (some d3) v3) w'') → o3.wp P a w' K Q)
    (h4 : ∀ (a : Act) (w' : World), (execOp a.eval o4).run P w' = .ok (.value (.pointer (some ⟨w'.heap.size, 0, none⟩))) (w'.alloc (.cells z1.toArray T1)))
    (h5 : ∀ (a : Act) (w' : World), (execOp a.eval o5).run P w' = .ok (.value (.pointer (some ⟨w'.heap.size, 0, none⟩))) (w'.alloc (.cells z2.toArray T2)))
    (ho6 : o6.op = .store T1 (.tmp d4) (.tmp d1)) (hv1 : v1 = .agg c1.toArray) (hi1 : (P.info? T1).map (·.size) = some c1.length) (hl1 : z1.length = c1.length) (hc1 : c1.all (·.oneCell') = true)
    (ho7 : o7.op = .store T2 (.tmp d5) (.tmp d3)) (hv3 : v3 = .agg c2.toArray) (hi2 : (P.info? T2).map (·.size) = some c2.length) (hl2 : z2.length = c2.length) (hc2 : c2.all (·.oneCell') = true)
    (hend : ∀ p q w', p ≠ q → w.heap.size ≤ p → w.heap.size ≤ q → VRow w' p T1 c1 → VRow w' q T2 c2 → Below w.heap.size w w' →
      Q .normal ((((((a0.put (some d0) u0).put (some d1) v1).put (some d2) u2).put (some d3) v3).put (some d4) (.pointer (some ⟨p, 0, none⟩))).put (some d5) (.pointer (some ⟨q, 0, none⟩))) w') :
    (Code.region id #[o0, o1, o2, o3, o4, o5, o6, o7] true).wp P Q a0 w := by
  obtain ⟨g0, g1, g2, g3, g4, g5, g6, g7⟩ := hg
  obtain ⟨e0, e1, e2, e3, e4, e5, e6, e7⟩ := hd
  let ds := slot6 d0 d1 d2 d3 d4 d5
  refine wp_region_inv (l := [o0, o1, o2, o3, o4, o5, o6, o7]) hm hb (fun L a w' => ∃ p q, Slots a0 ds (vals6 u0 v1 u2 v3 p q) L a ∧ TwoMem w.drew T1 T2 z1 c1 z2 c2 p q L w') ?_ ?_ ?_
  · exact ⟨0, 0, ⟨rfl, rfl, fun _ _ => rfl, fun _ _ h => (by cases h)⟩, ⟨Below.refl _ _, fun h => (by cases h), fun h => (by cases h), fun h => (by cases h), fun h => (by cases h), fun h => (by cases h)⟩⟩
  · intro i o hio L hdep hun a w' ⟨p, q, hs, hmm⟩
    have dep : ∀ t k, Region.waitsFor .any #[o0, o1, o2, o3, o4, o5, o6, o7] t k = true → t = i → L k = true := fun t k hw hti => by
      obtain ⟨oj, hoj, e, he, hbd, hon⟩ := Region.waitsFor_spec hw
      subst hti
      have : oj = o := Option.some.inj (hoj.symm.trans (by simpa using hio))
      subst this
      rw [← hon]; exact hdep e he hbd
    have wd : o.guard = none → Region.wanted o (yielded #[o0, o1, o2, o3, o4, o5, o6, o7] a.tmps) = true := fun h => by simp [Region.wanted, h]
    have hlti : i < 8 := by simpa using (List.getElem?_eq_some_iff.1 hio).1
    have hcase : i = 0 ∨ i = 1 ∨ i = 2 ∨ i = 3 ∨ i = 4 ∨ i = 5 ∨ i = 6 ∨ i = 7 := by omega
    rcases hcase with rfl | rfl | rfl | rfl | rfl | rfl | rfl | rfl
    · obtain rfl : o0 = o := by simpa using hio
      unfold wpO; rw [if_pos (wd g0)]; refine .inl ?_
      unfold Oper.wp; rw [h0 a w' hs.rest (belD hmm.bel), Oper.upon_value, e0]
      exact ⟨p, q, hs.put hinj hlt (i := 0) (by omega), hmm.move (Below.refl _ _) (by omega)⟩
    · obtain rfl : o1 = o := by simpa using hio
      unfold wpO; rw [if_pos (wd g1)]; refine .inl ?_
      refine h1 a w' _ (hs.val 0 (by omega) (dep 1 0 w1 rfl)) fun w'' hbb => ?_
      exact ⟨p, q, hs.put hinj hlt (i := 1) (by omega), hmm.move hbb (by omega)⟩
    · obtain rfl : o2 = o := by simpa using hio
      unfold wpO; rw [if_pos (wd g2)]; refine .inl ?_
      unfold Oper.wp; rw [h2 a w' hs.rest (belD hmm.bel), Oper.upon_value, e2]
      exact ⟨p, q, hs.put hinj hlt (i := 2) (by omega), hmm.move (Below.refl _ _) (by omega)⟩
    · obtain rfl : o3 = o := by simpa using hio
      unfold wpO; rw [if_pos (wd g3)]; refine .inl ?_
      refine h3 a w' _ (hs.val 2 (by omega) (dep 3 2 w3 rfl)) fun w'' hbb => ?_
      exact ⟨p, q, hs.put hinj hlt (i := 3) (by omega), hmm.move hbb (by omega)⟩
    · obtain rfl : o4 = o := by simpa using hio
      unfold wpO; rw [if_pos (wd g4)]; refine .inl ?_
      unfold Oper.wp; rw [h4 a w', Oper.upon_value, e4]
      have h6 : L 6 = false := by
        cases hL : L 6 with
        | false => rfl
        | true => rw [hmm.d6 hL] at hun; cases hun
      have hbb := (Below.refl w'.heap.size w').alloc (Nat.le_refl _) (.cells z1.toArray T1)
      refine ⟨w'.heap.size, q, ((hs.vals_of (vals' := vals6 u0 v1 u2 v3 w'.heap.size q) ?_).put hinj hlt (i := 4) (by omega)), ⟨below_S hmm.bel hbb, ?_, ?_, ?_, ?_, ?_⟩⟩
      · intro j hj hL
        have : j ≠ 4 := fun h => by subst h; rw [hun] at hL; cases hL
        have hj' : j = 0 ∨ j = 1 ∨ j = 2 ∨ j = 3 ∨ j = 5 := by omega
        rcases hj' with rfl | rfl | rfl | rfl | rfl <;> rfl
      · intro _; simp only [h6]; exact ⟨hmm.bel.size, VRow.new rfl⟩
      · intro h; have := hmm.row2 (by simpa using h); exact ⟨this.1, by simpa using this.2.alloc _⟩
      · intro _ h; have := (hmm.row2 (by simpa using h)).2.lt; omega
      · intro h; simp
      · intro h; simpa using hmm.d7 (by simpa using h)
    · obtain rfl : o5 = o := by simpa using hio
      unfold wpO; rw [if_pos (wd g5)]; refine .inl ?_
      unfold Oper.wp; rw [h5 a w', Oper.upon_value, e5]
      have h7 : L 7 = false := by
        cases hL : L 7 with
        | false => rfl
        | true => rw [hmm.d7 hL] at hun; cases hun
      have hbb := (Below.refl w'.heap.size w').alloc (Nat.le_refl _) (.cells z2.toArray T2)
      refine ⟨p, w'.heap.size, ((hs.vals_of (vals' := vals6 u0 v1 u2 v3 p w'.heap.size) ?_).put hinj hlt (i := 5) (by omega)), ⟨below_S hmm.bel hbb, ?_, ?_, ?_, ?_, ?_⟩⟩
      · intro j hj hL
        have : j ≠ 5 := fun h => by subst h; rw [hun] at hL; cases hL
        have hj' : j = 0 ∨ j = 1 ∨ j = 2 ∨ j = 3 ∨ j = 4 := by omega
        rcases hj' with rfl | rfl | rfl | rfl | rfl <;> rfl
      · intro h; have := hmm.row1 (by simpa using h); exact ⟨this.1, by simpa using this.2.alloc _⟩
      · intro _; simp only [h7]; exact ⟨hmm.bel.size, VRow.new rfl⟩
      · intro h _; have := (hmm.row1 (by simpa using h)).2.lt; omega
      · intro h; simpa using hmm.d6 (by simpa using h)
      · intro h; simp
    · obtain rfl : o6 = o := by simpa using hio
      have l4 := dep 6 4 w64 rfl
      have l1 := dep 6 1 w61 rfl
      have hr := hmm.row1 l4
      rw [hun] at hr
      unfold wpO; rw [if_pos (wd g6)]; refine .inl ?_
      have hx : a.eval (.tmp d4) = .pointer (some ⟨p, 0, none⟩) := by have := hs.val 4 (by omega) l4; simp only [Act.eval, Array.getD_eq_getD_getElem?]; rw [show a.tmps[d4]? = _ from this]; rfl
      have hy : a.eval (.tmp d1) = .agg c1.toArray := by have := hs.val 1 (by omega) l1; simp only [Act.eval, Array.getD_eq_getD_getElem?]; rw [show a.tmps[d1]? = _ from this]; exact hv1
      refine wp_store_row T1 _ _ ho6 p c1.toArray hx hy T1 z1.toArray hr.2 (by simpa using hi1) (by simpa using hl1) (by simpa using hc1) ?_
      rw [e6]
      refine ⟨p, q, hs.noput (by omega), ⟨bel_setRow hmm.bel hr.1 _, ?_, ?_, ?_, ?_, ?_⟩⟩
      · intro _; simp; exact ⟨hr.1, VRow.setRow hr.2 _⟩
      · intro h; have := hmm.row2 (by simpa using h); exact ⟨this.1, by simpa using this.2.setRowO (fun e => hmm.ne l4 (by simpa using h) e.symm) _⟩
      · intro h h'; exact hmm.ne (by simpa using h) (by simpa using h')
      · intro _; simpa using l4
      · intro h; simpa using hmm.d7 (by simpa using h)
    · obtain rfl : o7 = o := by simpa using hio
      have l5 := dep 7 5 w75 rfl
      have l3 := dep 7 3 w73 rfl
      have hr := hmm.row2 l5
      rw [hun] at hr
      unfold wpO; rw [if_pos (wd g7)]; refine .inl ?_
      have hx : a.eval (.tmp d5) = .pointer (some ⟨q, 0, none⟩) := by have := hs.val 5 (by omega) l5; simp only [Act.eval, Array.getD_eq_getD_getElem?]; rw [show a.tmps[d5]? = _ from this]; rfl
      have hy : a.eval (.tmp d3) = .agg c2.toArray := by have := hs.val 3 (by omega) l3; simp only [Act.eval, Array.getD_eq_getD_getElem?]; rw [show a.tmps[d3]? = _ from this]; exact hv3
      refine wp_store_row T2 _ _ ho7 q c2.toArray hx hy T2 z2.toArray hr.2 (by simpa using hi2) (by simpa using hl2) (by simpa using hc2) ?_
      rw [e7]
      refine ⟨p, q, hs.noput (by omega), ⟨bel_setRow hmm.bel hr.1 _, ?_, ?_, ?_, ?_, ?_⟩⟩
      · intro h; have := hmm.row1 (by simpa using h); exact ⟨this.1, by simpa using this.2.setRowO (fun e => hmm.ne (by simpa using h) l5 e) _⟩
      · intro _; simp; exact ⟨hr.1, VRow.setRow hr.2 _⟩
      · intro h h'; exact hmm.ne (by simpa using h) (by simpa using h')
      · intro h; simpa using hmm.d6 (by simpa using h)
      · intro _; simpa using l5
  · intro L a w' hall ⟨p, q, hs, hmm⟩
    have ha := hs.done (fun i hi => hall i (by simp; omega)) hinj hlt
    have r1 := hmm.row1 (hall 4 (by simp))
    have r2 := hmm.row2 (hall 5 (by simp))
    rw [hall 6 (by simp)] at r1
    rw [hall 7 (by simp)] at r2
    rw [ha]
    exact hend p q w' (hmm.ne (hall 4 (by simp)) (hall 5 (by simp))) r1.1 r2.1 r1.2 r2.2 (belD hmm.bel)
end
end Go.Proofs.MyK
