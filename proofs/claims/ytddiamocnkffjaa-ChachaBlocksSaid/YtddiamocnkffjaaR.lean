/-
  A drawn region walked once, in an order of our own choice: each operation that only reads is taken as soon as it may come up; one that writes is met when nothing else may come up.
-/
import Derived.WalkKit
import Derived.StillTail
import Derived.KernelRfl
import Derived.Test.YtddiamocnkffjaaK
namespace Go.Proofs.MyK
open Go.RowKit
section
variable {P : Program} {ops : Array Oper} {Q : Exit → Act → World → Prop} {md : Region.Mode} {S : Array Bool → World → Prop}

/-- What has come up is closed under what it waited for. -/
structure ClosedL (md : Region.Mode) (ops : Array Oper) (L : Array Bool) : Prop where
  size : L.size = ops.size
  cl : ∀ j oj, ops[j]? = some oj → L.getD j false = true → ∀ e ∈ oj.after, Region.binds md e = true → L.getD e.on false = true

theorem ClosedL.set {i : Nat} {L : Array Bool} (h : ClosedL md ops L) (hi : i ∈ Region.ready md ops L) : ClosedL md ops (L.setIfInBounds i true) := by
  obtain ⟨_, oi, hoi, hall⟩ := mem_ready.1 hi
  refine ⟨by simp [h.size], fun j oj hj hl e he hb => ?_⟩
  by_cases hij : i = j
  · subst hij
    have : oj = oi := Option.some.inj (hj.symm.trans hoi)
    subst this
    exact getD_set_true (hall e he hb)
  · rw [getD_set_ne false hij] at hl
    exact getD_set_true (h.cl j oj hj hl e he hb)
theorem ClosedL.start : ClosedL md ops (Array.replicate ops.size false) :=
  ⟨by simp, fun j _ _ hl => by rw [getD_replicate_false] at hl; cases hl⟩

/-- In state 'a' operation number i yields v in every world that may stand when it comes up. -/
def YieldsS (P : Program) (md : Region.Mode) (ops : Array Oper) (S : Array Bool → World → Prop) (i : Nat) (o : Oper) (v : Value) (a : Act) : Prop :=
  ∀ L w, ClosedL md ops L → L.getD i true = false → S L w → YieldsAt P ops w o v a

theorem YieldsS.of_same {i : Nat} {o : Oper} {v : Value} {a a' : Act} (hy : YieldsS P md ops S i o v a) (he : execOp a'.eval o = execOp a.eval o)
    (hw : Region.wanted o (yielded ops a'.tmps) = Region.wanted o (yielded ops a.tmps)) : YieldsS P md ops S i o v a' :=
  fun L w hc hu hs => (hy L w hc hu hs).of_same he hw

theorem wpOp_putS {i j : Nat} {oi oj : Oper} {v : Value} (hj : ops[j]? = some oj) (hap : oi.apart ops oj = true)
    (hsi : ∀ cs b, oi.op ≠ .select cs b) (hsj : ∀ cs b, oj.op ≠ .select cs b)
    (hQ : ∀ dst v c a w, Q (.panic c) (a.put dst v) w → Q (.panic c) a w) {K : Act → World → Prop} {a : Act} {w : World}
    (hy : YieldsS P md ops S i oi v a) (h : wpOp P ops Q j K (a.put oi.dst v) w) :
    wpOp P ops Q j (fun a' w' => YieldsS P md ops S i oi v a' ∧ K (a'.put oi.dst v) w') a w := by
  obtain ⟨h1, h2, h3⟩ := Oper.apart_spec hap
  have keep : ∀ (a : Act), YieldsS P md ops S i oi v a → ∀ u, YieldsS P md ops S i oi v (a.put oj.dst u) := fun a hy u =>
    hy.of_same (execOp_put oi hsi a oj.dst u h3) (wanted_put oi a oj.dst u h3)
  have keepD : ∀ d, YieldsS P md ops S i oi v { a with defers := d :: a.defers } := fun d => hy.of_same rfl rfl
  unfold wpOp at *
  simp only [hj] at *
  rw [wanted_put oj a oi.dst v h1] at h
  split
  · rename_i hw
    simp only [hw, if_true] at h
    rcases h with h | ⟨hasks, hlets⟩
    case inr => exact .inr ⟨by unfold Oper.asks at *; rw [execOp_put oj hsj a oi.dst v h1] at hasks; exact hasks, hlets⟩
    refine .inl ?_
    unfold Oper.wp at *
    rw [execOp_put oj hsj a oi.dst v h1] at h
    generalize (execOp a.eval oj).run P w = r at *
    cases r with
    | ok n w' =>
      cases n <;> simp only [Oper.upon] at h ⊢
      case value u => exact ⟨keep a hy u, by rw [← Act.put_comm a v u h2]; exact h⟩
      case skip => exact ⟨keep a hy _, by rw [← Act.put_comm a v undef h2]; exact h⟩
      case defer d =>
        refine ⟨keep _ (keepD d) _, ?_⟩
        rw [← Act.put_comm _ v undef h2, ← Act.put_defers]
        exact h
      case enter f args =>
        refine Calls.mono h fun e w'' he => ?_
        cases e with
        | returned u => exact ⟨keep a hy u, by rw [← Act.put_comm a v u h2]; exact he⟩
        | panicked c => exact hQ _ _ _ _ _ he
        | outgrown => exact he
      case row row args => exact Rows.mono h fun u w'' he => ⟨keep a hy u, by rw [← Act.put_comm a v u h2]; exact he⟩
    | halt x w' =>
      cases x <;> simp only [Oper.upon] at h ⊢
      case panic u => exact hQ _ _ _ _ _ h
  · rename_i hw
    simp only [hw] at h
    exact ⟨keep a hy _, by rw [← Act.put_comm a v undef h2]; exact h⟩

def wpAnyX (P : Program) (md : Region.Mode) (ops : Array Oper) (Q : Exit → Act → World → Prop) (S : Array Bool → World → Prop) : Nat → Array Bool → Act → World → Prop
  | 0, L, a, w => Region.ready md ops L = [] ∧ Q .normal a w
  | f + 1, L, a, w =>
    (Region.ready md ops L = [] → Q .normal a w) ∧
    ∀ i ∈ Region.ready md ops L, wpOp P ops Q i (fun a' w' => S (L.setIfInBounds i true) w' ∧ wpAnyX P md ops Q S f (L.setIfInBounds i true) a' w') a w
theorem wpAny_of_X : ∀ (f : Nat) (L : Array Bool) (a : Act) (w : World), wpAnyX P md ops Q S f L a w → wpAny P md ops Q f L a w
  | 0, _, _, _, h => h
  | f + 1, _, _, _, h => ⟨h.1, fun i hi => wpOp_mono (fun a' w' h' => wpAny_of_X f _ a' w' h'.2) (h.2 i hi)⟩
/-- Where S asks nothing any more. -/
theorem wpX_of_any : ∀ (f : Nat) (L : Array Bool) (a : Act) (w : World), (∀ L', (∀ k, L.getD k false = true → L'.getD k false = true) → ∀ w', S L' w') → wpAny P md ops Q f L a w → wpAnyX P md ops Q S f L a w
  | 0, _, _, _, _, h => h
  | f + 1, _, _, _, hS, h => ⟨h.1, fun i hi => wpOp_mono (fun a' w' h' => ⟨hS _ (fun _ hk => getD_set_true hk) w', wpX_of_any f _ a' w' (fun L' hL' => hS L' (fun _ hk => hL' _ (getD_set_true hk))) h'⟩) (h.2 i hi)⟩

theorem YieldsAt.wpOp' {i : Nat} {o : Oper} {v : Value} {a : Act} {w : World} (hi : ops[i]? = some o) (hy : YieldsAt P ops w o v a) {K : Act → World → Prop} (h : K (a.put o.dst v) w) : wpOp P ops Q i K a w :=
  wpOp_of_stOp (K := fun a' => K a' w) (fun _ h => h) (hy.stOp hi h)

theorem wpAnyX_first {i : Nat} {oi : Oper} {v : Value} (hmono : ∀ L w, S L w → S (L.setIfInBounds i true) w) (hind : ∀ L w, S (L.setIfInBounds i true) w → S L w) (hi : ops[i]? = some oi) (hsel : ∀ (j : Nat) (o : Oper) cs b, ops[j]? = some o → o.op ≠ .select cs b)
    (hQ : ∀ dst v c a w, Q (.panic c) (a.put dst v) w → Q (.panic c) a w) :
    ∀ (f : Nat) (L : Array Bool) (a : Act) (w : World),
      (∀ j oj, ops[j]? = some oj → j ≠ i → L.getD j true = false → (∀ e ∈ oj.after, Region.binds md e = true → e.on ≠ i) → oi.apart ops oj = true) →
      i ∈ Region.ready md ops L → ClosedL md ops L → YieldsS P md ops S i oi v a → S L w →
      wpAnyX P md ops Q S f (L.setIfInBounds i true) (a.put oi.dst v) w → wpAnyX P md ops Q S (f + 1) L a w := by
  intro f
  induction f with
  | zero =>
    intro L a w _ hr hc hy hS H
    refine ⟨fun h => (by rw [h] at hr; cases hr), fun j hj => ?_⟩
    by_cases hji : j = i
    · subst hji; exact YieldsAt.wpOp' hi (hy L w hc (mem_ready.1 hr).1 hS) ⟨hmono _ _ hS, H⟩
    · have := ready_mono hj hji
      rw [H.1] at this
      cases this
  | succ f ih =>
    intro L a w hfree hr hc hy hS H
    refine ⟨fun h => (by rw [h] at hr; cases hr), fun j hj => ?_⟩
    by_cases hji : j = i
    · subst hji; exact YieldsAt.wpOp' hi (hy L w hc (mem_ready.1 hr).1 hS) ⟨hmono _ _ hS, H⟩
    · have h1 := H.2 j (ready_mono hj hji)
      obtain ⟨hjun, oj, hoj, hall⟩ := mem_ready.1 hj
      have hnot : ∀ e ∈ oj.after, Region.binds md e = true → e.on ≠ i := fun e he hb heq => by
        have h1 := hall e he hb
        rw [heq, getD_both (mem_ready.1 hr).1] at h1
        cases h1
      have h2 := wpOp_putS hoj (hfree j oj hoj hji hjun hnot) (fun cs b => hsel i oi cs b hi) (fun cs b => hsel j oj cs b hoj) hQ hy h1
      have hfree' : ∀ k ok, ops[k]? = some ok → k ≠ i → (L.setIfInBounds j true).getD k true = false →
          (∀ e ∈ ok.after, Region.binds md e = true → e.on ≠ i) → oi.apart ops ok = true := fun k ok hk hki hun hno => by
        refine hfree k ok hk hki ?_ hno
        by_cases hjk : j = k
        · subst hjk; exact hjun
        · rw [getD_set_ne true hjk] at hun; exact hun
      have hcomm : (L.setIfInBounds i true).setIfInBounds j true = (L.setIfInBounds j true).setIfInBounds i true := Array.setIfInBounds_comm _ _ (Ne.symm hji)
      refine wpOp_mono (fun a' w' h3 => ?_) h2
      obtain ⟨hy', hS', hX'⟩ := h3
      rw [hcomm] at hS' hX'
      exact ⟨hind _ _ hS', ih (L.setIfInBounds j true) a' w' hfree' (ready_mono hr (Ne.symm hji)) (hc.set hj) hy' (hind _ _ hS') hX'⟩

/-- Op number t waits, through at most f edges, for i. -/
def waitsT (md : Region.Mode) (ops : Array Oper) : Nat → Nat → Nat → Bool
  | 0, _, _ => false
  | f + 1, t, i => Region.waitsFor md ops t i || (match ops[t]? with
    | some o => o.after.any fun e => Region.binds md e && waitsT md ops f e.on i
    | none => false)
theorem waitsT_spec (L : Array Bool) (hc : ClosedL md ops L) : ∀ (f t i : Nat), waitsT md ops f t i = true → L.getD i true = false → L.getD t true = false
  | 0, _, _, h, _ => by simp [waitsT] at h
  | f + 1, t, i, h, hi => by
    simp only [waitsT, Bool.or_eq_true] at h
    have key : ∀ ot, ops[t]? = some ot → ∀ e ∈ ot.after, Region.binds md e = true → L.getD e.on true = false → L.getD t true = false := fun ot hot e he hb hu => by
      cases hl : L.getD t false with
      | false =>
        have hlt : t < L.size := by rw [hc.size]; exact (Array.getElem?_eq_some_iff.1 hot).1
        exact getD_in hlt hl
      | true =>
        have h2 := hc.cl t ot hot hl e he hb
        rw [getD_both hu] at h2; cases h2
    rcases h with h | h
    · obtain ⟨ot, hot, e, he, hb, hon⟩ := Region.waitsFor_spec h
      exact key ot hot e he hb (by rw [hon]; exact hi)
    · split at h
      · rename_i ot hot
        obtain ⟨e, he, hb⟩ := Array.any_eq_true'.1 h
        simp only [Bool.and_eq_true] at hb
        exact key ot hot e he hb.1 (waitsT_spec L hc f _ i hb.2 hi)
      · cases h

/-- Till 'st' has come up the world is w0; till 'en' has come up nothing below has turned. -/
def SP (st en : Nat) (w0 : World) (L : Array Bool) (w : World) : Prop := (L.getD st true = false → w = w0) ∧ (L.getD en false = false → Below w0.heap.size w0 w)

theorem getD_set_un {i k : Nat} {L : Array Bool} (h : (L.setIfInBounds i true).getD k true = false) : L.getD k true = false := by
  by_cases hik : i = k
  · subst hik
    rcases Nat.lt_or_ge i L.size with h' | h'
    · simp [h'] at h
    · simp at h
  · rwa [getD_set_ne true hik] at h
theorem SP.mono {st en : Nat} {w0 : World} {L : Array Bool} {w : World} (i : Nat) (h : SP st en w0 L w) : SP st en w0 (L.setIfInBounds i true) w :=
  ⟨fun hu => h.1 (getD_set_un hu), fun hu => h.2 (by
    cases hl : L.getD en false with
    | false => rfl
    | true => rw [getD_set_true hl] at hu; cases hu)⟩
theorem SP.ind {st en : Nat} {w0 : World} {L : Array Bool} {w : World} {i : Nat} (h1 : i ≠ st) (h2 : i ≠ en) (h : SP st en w0 (L.setIfInBounds i true) w) : SP st en w0 L w :=
  ⟨fun hu => h.1 (by rw [getD_set_ne true h1]; exact hu), fun hu => h.2 (by rw [getD_set_ne false h2]; exact hu)⟩

/-- How an operation is met: h: it reads, ahead of st; e: it reads, ahead of en, also behind st; p: it looks at no world; b: it writes, nothing below turns; w: it writes. -/
inductive Cl | h | e | p | b | w
  deriving DecidableEq

def planB (md : Region.Mode) (ops : Array Oper) (st en : Nat) : List (Cl × Nat) → Array Bool → Bool
  | [], L => (Region.ready md ops L).isEmpty
  | (.h, i) :: r, L => (Region.ready md ops L).contains i && Region.free md ops L i && i != st && i != en && waitsT md ops 5 st i && planB md ops st en r (L.setIfInBounds i true)
  | (.e, i) :: r, L => (Region.ready md ops L).contains i && Region.free md ops L i && i != st && i != en && (decide (ops.size ≤ en) || waitsT md ops 5 en i) && planB md ops st en r (L.setIfInBounds i true)
  | (.p, i) :: r, L => (Region.ready md ops L).contains i && Region.free md ops L i && i != st && i != en && planB md ops st en r (L.setIfInBounds i true)
  | (.b, i) :: r, L => decide (Region.ready md ops L = [i]) && (L.setIfInBounds i true).getD st true && planB md ops st en r (L.setIfInBounds i true)
  | (.w, i) :: r, L => decide (Region.ready md ops L = [i]) && (L.setIfInBounds i true).getD st true && (L.setIfInBounds i true).getD en false && planB md ops st en r (L.setIfInBounds i true)

/-- One operation carried out, where it stands. -/
def wpO (P : Program) (ops : Array Oper) (Q : Exit → Act → World → Prop) (o : Oper) (K : Act → World → Prop) (a : Act) (w : World) : Prop :=
  if Region.wanted o (yielded ops a.tmps) then o.wp P a w K Q ∨ (o.asks P a w ∧ LetsOut Q) else K (a.put o.dst undef) w

/-- The walk through a plan. -/
def seqC (P : Program) (ops : Array Oper) (Q : Exit → Act → World → Prop) (w0 : World) (K : Act → World → Prop) : List (Cl × Oper) → Act → World → Prop
  | [], a, w => K a w
  | (.h, o) :: r, a, w => ∃ v, YieldsAt P ops w0 o v a ∧ seqC P ops Q w0 K r (a.put o.dst v) w
  | (.e, o) :: r, a, w => ∃ v, (∀ w', Below w0.heap.size w0 w' → YieldsAt P ops w' o v a) ∧ seqC P ops Q w0 K r (a.put o.dst v) w
  | (.p, o) :: r, a, w => ∃ v, (∀ w', YieldsAt P ops w' o v a) ∧ seqC P ops Q w0 K r (a.put o.dst v) w
  | (.b, o) :: r, a, w => wpO P ops Q o (fun a' w' => Below w0.heap.size w0 w' ∧ seqC P ops Q w0 K r a' w') a w
  | (.w, o) :: r, a, w => wpO P ops Q o (fun a' w' => seqC P ops Q w0 K r a' w') a w

theorem wpO_mono {o : Oper} {K K' : Act → World → Prop} {a : Act} {w : World} (h : ∀ a w, K a w → K' a w) (hh : wpO P ops Q o K a w) : wpO P ops Q o K' a w := by
  unfold wpO at *
  split
  · rename_i hw; simp only [hw, if_true] at hh; exact hh.imp (Oper.wp_mono h) id
  · rename_i hw; simp only [hw] at hh; exact h _ _ hh
theorem wpOp_of_wpO {i : Nat} {o : Oper} (ho : ops[i]? = some o) {K : Act → World → Prop} {a : Act} {w : World} (h : wpO P ops Q o K a w) : wpOp P ops Q i K a w := by
  unfold wpOp; simp only [ho]; exact h

theorem wpAnyX_plan {st en : Nat} {w0 : World} (hsel : Region.noSelect ops = true) (hQ : ∀ dst v c a w, Q (.panic c) (a.put dst v) w → Q (.panic c) a w) :
    ∀ (plan : List (Cl × Nat)) (L : Array Bool) (a : Act) (w : World), (∀ x ∈ plan, x.2 < ops.size) → planB md ops st en plan L = true → ClosedL md ops L → SP st en w0 L w →
      seqC P ops Q w0 (fun a' w' => Q .normal a' w') (plan.map fun x => (x.1, ops.getD x.2 default)) a w → wpAnyX P md ops Q (SP st en w0) plan.length L a w
  | [], L, a, w, _, hB, _, _, h => ⟨by simpa [planB] using hB, h⟩
  | (c, i) :: r, L, a, w, hin, hB, hc, hS, h => by
    have hlt : i < ops.size := hin (c, i) (by simp)
    have hin' : ∀ x ∈ r, x.2 < ops.size := fun x hx => hin x (by simp [hx])
    have ho : ops[i]? = some (ops.getD i default) := by simp [hlt]
    have hrec := wpAnyX_plan hsel hQ r (L.setIfInBounds i true) (st := st) (en := en) (w0 := w0)
    have take : i ≠ st → i ≠ en → Region.free md ops L i = true → i ∈ Region.ready md ops L → planB md ops st en r (L.setIfInBounds i true) = true → ∀ v, YieldsS P md ops (SP st en w0) i (ops.getD i default) v a →
        seqC P ops Q w0 (fun a' w' => Q .normal a' w') (r.map fun x => (x.1, ops.getD x.2 default)) (a.put (ops.getD i default).dst v) w → wpAnyX P md ops Q (SP st en w0) (r.length + 1) L a w :=
      fun h1 h2 hf hr hB' v hy hs => wpAnyX_first (fun _ _ h => h.mono i) (fun _ _ h => h.ind h1 h2) ho (Region.noSelect_spec hsel) hQ r.length L a w (Region.free_spec ho hf) hr hc hy hS
        (hrec _ _ hin' hB' (hc.set hr) (hS.mono i) hs)
    have forced : Region.ready md ops L = [i] → ∀ (K : Act → World → Prop), (∀ a' w', K a' w' → SP st en w0 (L.setIfInBounds i true) w' ∧ wpAnyX P md ops Q (SP st en w0) r.length (L.setIfInBounds i true) a' w') → wpO P ops Q (ops.getD i default) K a w →
        wpAnyX P md ops Q (SP st en w0) (r.length + 1) L a w := fun hr K hK hs =>
      ⟨fun h0 => (by rw [hr] at h0; cases h0), fun j hj => (by
        rw [hr] at hj
        have : j = i := by simpa using hj
        subst this
        exact wpOp_mono hK (wpOp_of_wpO ho hs))⟩
    cases c with
    | h =>
      simp only [planB, Bool.and_eq_true, bne_iff_ne, ne_eq, List.contains_iff_mem] at hB
      obtain ⟨⟨⟨⟨⟨hr, hf⟩, h1⟩, h2⟩, hwt⟩, hB'⟩ := hB
      obtain ⟨v, hy, hs⟩ := h
      exact take h1 h2 hf hr hB' v (fun L' w' hc' hu hS' => by rw [hS'.1 (waitsT_spec L' hc' _ _ _ hwt hu)]; exact hy) hs
    | e =>
      simp only [planB, Bool.and_eq_true, bne_iff_ne, ne_eq, List.contains_iff_mem] at hB
      obtain ⟨⟨⟨⟨⟨hr, hf⟩, h1⟩, h2⟩, hwt⟩, hB'⟩ := hB
      obtain ⟨v, hy, hs⟩ := h
      refine take h1 h2 hf hr hB' v (fun L' w' hc' hu hS' => hy w' (hS'.2 ?_)) hs
      simp only [Bool.or_eq_true, decide_eq_true_eq] at hwt
      rcases hwt with hwt | hwt
      · have : L'.size ≤ en := by rw [hc'.size]; exact hwt
        simp [this]
      · exact getD_both (waitsT_spec L' hc' _ _ _ hwt hu)
    | p =>
      simp only [planB, Bool.and_eq_true, bne_iff_ne, ne_eq, List.contains_iff_mem] at hB
      obtain ⟨⟨⟨⟨hr, hf⟩, h1⟩, h2⟩, hB'⟩ := hB
      obtain ⟨v, hy, hs⟩ := h
      exact take h1 h2 hf hr hB' v (fun L' w' _ _ _ => hy w') hs
    | b =>
      simp only [planB, Bool.and_eq_true, decide_eq_true_eq] at hB
      obtain ⟨⟨hr, h1⟩, hB'⟩ := hB
      refine forced hr _ (fun a' w' h' => ?_) h
      have hS' : SP st en w0 (L.setIfInBounds i true) w' := ⟨fun hu => (by rw [h1] at hu; cases hu), fun _ => h'.1⟩
      exact ⟨hS', hrec _ _ hin' hB' (hc.set (by rw [hr]; simp)) hS' h'.2⟩
    | w =>
      simp only [planB, Bool.and_eq_true, decide_eq_true_eq] at hB
      obtain ⟨⟨⟨hr, h1⟩, h2⟩, hB'⟩ := hB
      refine forced hr _ (fun a' w' h' => ?_) h
      have hS' : SP st en w0 (L.setIfInBounds i true) w' := ⟨fun hu => (by rw [h1] at hu; cases hu), fun hu => (by rw [h2] at hu; cases hu)⟩
      exact ⟨hS', hrec _ _ hin' hB' (hc.set (by rw [hr]; simp)) hS' h'⟩

/-- The plan names each operation once. -/
def planOk (ops : Array Oper) (st en : Nat) (plan : List (Cl × Nat)) : Bool :=
  Region.noSelect ops && plan.all (fun x => decide (x.2 < ops.size)) && decide (plan.length = ops.size) && planB .any ops st en plan (Array.replicate ops.size false)

def planOps (l : List Oper) (plan : List (Cl × Nat)) : List (Cl × Oper) := plan.map fun x => (x.1, l.getD x.2 default)
theorem planOps_nil (l : List Oper) : planOps l [] = [] := rfl
theorem planOps_cons (l : List Oper) (c : Cl) (i : Nat) (r : List (Cl × Nat)) : planOps l ((c, i) :: r) = (c, l.getD i default) :: planOps l r := rfl
theorem getD_zero (o : Oper) (l : List Oper) (d : Oper) : (o :: l).getD 0 d = o := rfl
theorem getD_succ (o : Oper) (l : List Oper) (n : Nat) (d : Oper) : (o :: l).getD (n + 1) d = l.getD n d := rfl

theorem wp_region_plan {id : Nat} {a : Act} {w : World} {l : List Oper} (st en : Nat) (plan : List (Cl × Nat)) (hm : P.follows .mixedOrders = true) (hB : planOk l.toArray st en plan = true)
    (hQ : ∀ dst v c a w, Q (.panic c) (a.put dst v) w → Q (.panic c) a w)
    (h : ∀ (Q' : Exit → Act → World → Prop) (K' : Act → World → Prop), Hid (Q' = Q) → (∀ a' w', Q .normal a' w' → K' a' w') → seqC P l.toArray Q' w.drew K' (planOps l plan) a w.drew) : (Code.region id l.toArray true).wp P Q a w := by
  simp only [planOk, Bool.and_eq_true, List.all_eq_true, decide_eq_true_eq] at hB
  obtain ⟨⟨⟨hsel, hin⟩, hlen⟩, hpl⟩ := hB
  refine wp_region_any hm ?_
  have e : planOps l plan = plan.map fun x => (x.1, l.toArray.getD x.2 default) := by
    unfold planOps; refine List.map_congr_left fun x _ => ?_
    simp [List.getD]
  have := wpAnyX_plan (P := P) (Q := Q) (md := .any) (w0 := w.drew) hsel hQ plan _ a w.drew hin hpl ClosedL.start ⟨fun _ => rfl, fun _ => Below.refl _ _⟩ (e ▸ h Q _ rfl (fun _ _ h => h))
  rw [hlen] at this
  exact wpAny_of_X _ _ _ _ this

/-- A region that only reads. -/
theorem wp_region_sd {id : Nat} {a : Act} {w : World} {l : List Oper} (hm : P.follows .mixedOrders = true) (hB : Region.lexB .any l.toArray = true)
    (h : wpStill P l.toArray w.drew (fun a' => Q .normal a' w.drew) l a) : (Code.region id l.toArray true).wp P Q a w :=
  wp_region_still_lit hm hB h
/-! ### The steps of a walk through a plan -/
variable {w0 w : World} {K : Act → World → Prop} {a : Act} {o : Oper} {r : List (Cl × Oper)}
theorem with_refl {l : List (Cl × Oper)} (h : Below w0.heap.size w0 w → seqC P ops Q w0 K l a w) (hw : w = w0 := by rfl) : seqC P ops Q w0 K l a w := h (hw ▸ Below.refl _ _)
theorem seqC_nil (h : K a w) : seqC P ops Q w0 K [] a w := h
theorem yieldsAt_of_still {K' : Act → Prop} (h : if Region.wanted o (yielded ops a.tmps) then o.still P a w K' else K' (a.put o.dst undef)) : ∃ v, YieldsAt P ops w o v a ∧ K' (a.put o.dst v) := by
  by_cases hw : Region.wanted o (yielded ops a.tmps) = true
  · simp only [hw, if_true, Oper.still] at h
    generalize hr : (execOp a.eval o).run P w = q at h
    cases q with
    | ok n w' =>
      cases n <;> simp only [Oper.stillUpon] at h
      case value u => obtain ⟨rfl, h2⟩ := h; exact ⟨u, .inl ⟨hw, .inl hr⟩, h2⟩
      case skip => obtain ⟨rfl, h2⟩ := h; exact ⟨undef, .inl ⟨hw, .inr (.inl ⟨hr, rfl⟩)⟩, h2⟩
      case enter f args => obtain ⟨rfl, v, hc, h2⟩ := h; exact ⟨v, .inl ⟨hw, .inr (.inr ⟨f, args, hr, hc⟩)⟩, h2⟩
    | halt x w' => simp only [Oper.stillUpon] at h
  · simp only [hw] at h
    exact ⟨undef, .inr ⟨by simpa using hw, rfl⟩, h⟩
theorem seqC_h (h : ∀ K' : Act → Prop, (∀ a', seqC P ops Q w0 K r a' w → K' a') → if Region.wanted o (yielded ops a.tmps) then o.still P a w0 K' else K' (a.put o.dst undef)) : seqC P ops Q w0 K ((.h, o) :: r) a w :=
  yieldsAt_of_still (h _ (fun _ h => h))
theorem seqC_p {v : Value} (hw : Region.wanted o (yielded ops a.tmps) = true) (hr : ∀ w', (execOp a.eval o).run P w' = .ok (.value v) w') (h : seqC P ops Q w0 K r (a.put o.dst v) w) : seqC P ops Q w0 K ((.p, o) :: r) a w :=
  ⟨v, fun w' => .inl ⟨hw, .inl (hr w')⟩, h⟩
theorem seqC_e {v : Value} (hw : Region.wanted o (yielded ops a.tmps) = true) (hr : ∀ w', Below w0.heap.size w0 w' → (execOp a.eval o).run P w' = .ok (.value v) w') (h : seqC P ops Q w0 K r (a.put o.dst v) w) : seqC P ops Q w0 K ((.e, o) :: r) a w :=
  ⟨v, fun w' hb => .inl ⟨hw, .inl (hr w' hb)⟩, h⟩
theorem seqC_skip_h (hw : Region.wanted o (yielded ops a.tmps) = false) (h : seqC P ops Q w0 K r (a.put o.dst undef) w) : seqC P ops Q w0 K ((.h, o) :: r) a w :=
  ⟨undef, .inr ⟨hw, rfl⟩, h⟩
theorem seqC_skip_p (hw : Region.wanted o (yielded ops a.tmps) = false) (h : seqC P ops Q w0 K r (a.put o.dst undef) w) : seqC P ops Q w0 K ((.p, o) :: r) a w :=
  ⟨undef, fun _ => .inr ⟨hw, rfl⟩, h⟩
theorem seqC_skip_e (hw : Region.wanted o (yielded ops a.tmps) = false) (h : seqC P ops Q w0 K r (a.put o.dst undef) w) : seqC P ops Q w0 K ((.e, o) :: r) a w :=
  ⟨undef, fun _ _ => .inr ⟨hw, rfl⟩, h⟩
theorem seqC_skip_w (hw : Region.wanted o (yielded ops a.tmps) = false) (h : seqC P ops Q w0 K r (a.put o.dst undef) w) : seqC P ops Q w0 K ((.w, o) :: r) a w := by
  show wpO P ops Q o _ a w
  unfold wpO; rw [if_neg (by simp [hw])]; exact h
theorem seqC_skip_b (hb : Below w0.heap.size w0 w) (hw : Region.wanted o (yielded ops a.tmps) = false) (h : seqC P ops Q w0 K r (a.put o.dst undef) w) : seqC P ops Q w0 K ((.b, o) :: r) a w := by
  show wpO P ops Q o _ a w
  unfold wpO; rw [if_neg (by simp [hw])]; exact ⟨hb, h⟩
theorem seqC_w (h : ∀ K' : Act → World → Prop, (∀ a' w', seqC P ops Q w0 K r a' w' → K' a' w') → if Region.wanted o (yielded ops a.tmps) then o.wp P a w K' Q else K' (a.put o.dst undef) w) : seqC P ops Q w0 K ((.w, o) :: r) a w := by
  show wpO P ops Q o _ a w
  have := h _ (fun _ _ h => h)
  unfold wpO
  split
  · rename_i hw; rw [if_pos hw] at this; exact .inl this
  · rename_i hw; rw [if_neg hw] at this; exact this
theorem seqC_b (h : ∀ K' : Act → World → Prop, (∀ a' w', Below w0.heap.size w0 w' → seqC P ops Q w0 K r a' w' → K' a' w') → if Region.wanted o (yielded ops a.tmps) then o.wp P a w K' Q else K' (a.put o.dst undef) w) : seqC P ops Q w0 K ((.b, o) :: r) a w := by
  show wpO P ops Q o _ a w
  have := h _ (fun _ _ h1 h2 => (⟨h1, h2⟩ : _ ∧ _))
  unfold wpO
  split
  · rename_i hw; rw [if_pos hw] at this; exact .inl this
  · rename_i hw; rw [if_neg hw] at this; exact this
theorem run_load_vrow {a : Act} {o : Oper} {w : World} (ty : TypeId) (x : Operand) (ho : o.op = .load ty x) (g : Nat) (hx : a.eval x = .pointer (some ⟨g, 0, none⟩)) (T : TypeId) (xs : List Value) (d : TypeDesc) (hv : VRow w g T xs)
    (hu : P.underlying ty = some d) (hd : (match d with | .struct _ | .array _ _ => true | _ => false) = true) (hi : (P.info? ty).map (·.size) = some xs.length) : (execOp a.eval o).run P w = .ok (.value (.agg xs.toArray)) w := by
  unfold execOp
  simp only [ho, hx, Instr.loadAt, Instr.sureAddr, Sem.run_bind, Sem.run_pure, Result.andThen_ok, run_loadVar_row w g T ty xs.toArray (0, 0) d hv hu hd (by simpa using hi)]
theorem seqC_e_row (hw : Region.wanted o (yielded ops a.tmps) = true) {ty : TypeId} {x : Operand} (ho : o.op = .load ty x) {g : Nat} (hx : a.eval x = .pointer (some ⟨g, 0, none⟩)) {T : TypeId} {xs : List Value} {d : TypeDesc} (hv : VRow w0 g T xs)
    (hu : P.underlying ty = some d) (hd : (match d with | .struct _ | .array _ _ => true | _ => false) = true) (hi : (P.info? ty).map (·.size) = some xs.length) (h : seqC P ops Q w0 K r (a.put o.dst (.agg xs.toArray)) w) : seqC P ops Q w0 K ((.e, o) :: r) a w :=
  seqC_e hw (fun _ hb => run_load_vrow ty x ho g hx T xs d (hv.belowS hb) hu hd hi) h
theorem seqC_h_row (hw : Region.wanted o (yielded ops a.tmps) = true) {ty : TypeId} {x : Operand} (ho : o.op = .load ty x) {g : Nat} (hx : a.eval x = .pointer (some ⟨g, 0, none⟩)) {T : TypeId} {xs : List Value} {d : TypeDesc} (hv : VRow w0 g T xs)
    (hu : P.underlying ty = some d) (hd : (match d with | .struct _ | .array _ _ => true | _ => false) = true) (hi : (P.info? ty).map (·.size) = some xs.length) (h : seqC P ops Q w0 K r (a.put o.dst (.agg xs.toArray)) w) : seqC P ops Q w0 K ((.h, o) :: r) a w :=
  ⟨_, .inl ⟨hw, .inl (run_load_vrow ty x ho g hx T xs d hv hu hd hi)⟩, h⟩
end
end Go.Proofs.MyK
