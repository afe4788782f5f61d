/-
  The plan again, for regions whose chains are long.
-/
import Derived.Test.YtddiamocnkffjaaK2
namespace Go.Proofs.MyK
open Go.RowKit
section
variable {P : Program} {ops : Array Oper} {Q : Exit → Act → World → Prop} {md : Region.Mode} {S : Array Bool → World → Prop}
def planB2 (md : Region.Mode) (ops : Array Oper) (st en : Nat) : List (Cl × Nat) → Array Bool → Bool
  | [], L => (Region.ready md ops L).isEmpty
  | (.h, i) :: r, L => (Region.ready md ops L).contains i && Region.free md ops L i && i != st && i != en && waitsT md ops 14 st i && planB2 md ops st en r (L.setIfInBounds i true)
  | (.e, i) :: r, L => (Region.ready md ops L).contains i && Region.free md ops L i && i != st && i != en && (decide (ops.size ≤ en) || waitsT md ops 14 en i) && planB2 md ops st en r (L.setIfInBounds i true)
  | (.p, i) :: r, L => (Region.ready md ops L).contains i && Region.free md ops L i && i != st && i != en && planB2 md ops st en r (L.setIfInBounds i true)
  | (.b, i) :: r, L => decide (Region.ready md ops L = [i]) && (L.setIfInBounds i true).getD st true && planB2 md ops st en r (L.setIfInBounds i true)
  | (.w, i) :: r, L => decide (Region.ready md ops L = [i]) && (L.setIfInBounds i true).getD st true && (L.setIfInBounds i true).getD en false && planB2 md ops st en r (L.setIfInBounds i true)

theorem wpAnyX_plan2 {st en : Nat} {w0 : World} (hsel : Region.noSelect ops = true) (hQ : ∀ dst v c a w, Q (.panic c) (a.put dst v) w → Q (.panic c) a w) :
    ∀ (plan : List (Cl × Nat)) (L : Array Bool) (a : Act) (w : World), (∀ x ∈ plan, x.2 < ops.size) → planB2 md ops st en plan L = true → ClosedL md ops L → SP st en w0 L w →
      seqC P ops Q w0 (fun a' w' => Q .normal a' w') (plan.map fun x => (x.1, ops.getD x.2 default)) a w → wpAnyX P md ops Q (SP st en w0) plan.length L a w
  | [], L, a, w, _, hB, _, _, h => ⟨by simpa [planB2] using hB, h⟩
  | (c, i) :: r, L, a, w, hin, hB, hc, hS, h => by
    have hlt : i < ops.size := hin (c, i) (by simp)
    have hin' : ∀ x ∈ r, x.2 < ops.size := fun x hx => hin x (by simp [hx])
    have ho : ops[i]? = some (ops.getD i default) := by simp [hlt]
    have hrec := wpAnyX_plan2 hsel hQ r (L.setIfInBounds i true) (st := st) (en := en) (w0 := w0)
    have take : i ≠ st → i ≠ en → Region.free md ops L i = true → i ∈ Region.ready md ops L → planB2 md ops st en r (L.setIfInBounds i true) = true → ∀ v, YieldsS P md ops (SP st en w0) i (ops.getD i default) v a →
        seqC P ops Q w0 (fun a' w' => Q .normal a' w') (r.map fun x => (x.1, ops.getD x.2 default)) (a.put (ops.getD i default).dst v) w → wpAnyX P md ops Q (SP st en w0) (r.length + 1) L a w :=
      fun h1 h2 hf hr hB' v hy hs => wpAnyX_first (fun _ _ h => h.mono i) (fun _ _ h => h.ind h1 h2) ho (Region.noSelect_spec hsel) hQ r.length L a w (Region.free_spec ho hf) hr hc hy hS
        (hrec _ _ hin' hB' (hc.set hr) (hS.mono i) hs)
    have forced : Region.ready md ops L = [i] → ∀ (K : Act → World → Prop), (∀ a' w', K a' w' → SP st en w0 (L.setIfInBounds i true) w' ∧ wpAnyX P md ops Q (SP st en w0) r.length (L.setIfInBounds i true) a' w') → wpO P ops Q (ops.getD i default) K a w →
        wpAnyX P md ops Q (SP st en w0) (r.length + 1) L a w := fun hr K hK hs =>
      ⟨fun h0 => (by rw [hr] at h0; cases h0), fun j hj => (by
        rw [hr] at hj
        have : j = i := by simpa using hj
        subst this
        exact wpOp_mono hK (wpOp_of_wpO ho hs))⟩
    cases c with
    | h =>
      simp only [planB2, Bool.and_eq_true, bne_iff_ne, ne_eq, List.contains_iff_mem] at hB
      obtain ⟨⟨⟨⟨⟨hr, hf⟩, h1⟩, h2⟩, hwt⟩, hB'⟩ := hB
      obtain ⟨v, hy, hs⟩ := h
      exact take h1 h2 hf hr hB' v (fun L' w' hc' hu hS' => by rw [hS'.1 (waitsT_spec L' hc' _ _ _ hwt hu)]; exact hy) hs
    | e =>
      simp only [planB2, Bool.and_eq_true, bne_iff_ne, ne_eq, List.contains_iff_mem] at hB
      obtain ⟨⟨⟨⟨⟨hr, hf⟩, h1⟩, h2⟩, hwt⟩, hB'⟩ := hB
      obtain ⟨v, hy, hs⟩ := h
      refine take h1 h2 hf hr hB' v (fun L' w' hc' hu hS' => hy w' (hS'.2 ?_)) hs
      simp only [Bool.or_eq_true, decide_eq_true_eq] at hwt
      rcases hwt with hwt | hwt
      · have : L'.size ≤ en := by rw [hc'.size]; exact hwt
        simp [this]
      · exact getD_both (waitsT_spec L' hc' _ _ _ hwt hu)
    | p =>
      simp only [planB2, Bool.and_eq_true, bne_iff_ne, ne_eq, List.contains_iff_mem] at hB
      obtain ⟨⟨⟨⟨hr, hf⟩, h1⟩, h2⟩, hB'⟩ := hB
      obtain ⟨v, hy, hs⟩ := h
      exact take h1 h2 hf hr hB' v (fun L' w' _ _ _ => hy w') hs
    | b =>
      simp only [planB2, Bool.and_eq_true, decide_eq_true_eq] at hB
      obtain ⟨⟨hr, h1⟩, hB'⟩ := hB
      refine forced hr _ (fun a' w' h' => ?_) h
      have hS' : SP st en w0 (L.setIfInBounds i true) w' := ⟨fun hu => (by rw [h1] at hu; cases hu), fun _ => h'.1⟩
      exact ⟨hS', hrec _ _ hin' hB' (hc.set (by rw [hr]; simp)) hS' h'.2⟩
    | w =>
      simp only [planB2, Bool.and_eq_true, decide_eq_true_eq] at hB
      obtain ⟨⟨⟨hr, h1⟩, h2⟩, hB'⟩ := hB
      refine forced hr _ (fun a' w' h' => ?_) h
      have hS' : SP st en w0 (L.setIfInBounds i true) w' := ⟨fun hu => (by rw [h1] at hu; cases hu), fun hu => (by rw [h2] at hu; cases hu)⟩
      exact ⟨hS', hrec _ _ hin' hB' (hc.set (by rw [hr]; simp)) hS' h'⟩

def planOk2 (ops : Array Oper) (st en : Nat) (plan : List (Cl × Nat)) : Bool :=
  Region.noSelect ops && plan.all (fun x => decide (x.2 < ops.size)) && decide (plan.length = ops.size) && planB2 .any ops st en plan (Array.replicate ops.size false)

theorem wp_region_plan2 {id : Nat} {a : Act} {w : World} {l : List Oper} (st en : Nat) (plan : List (Cl × Nat)) (hm : P.follows .mixedOrders = true) (hB : planOk2 l.toArray st en plan = true)
    (hQ : ∀ dst v c a w, Q (.panic c) (a.put dst v) w → Q (.panic c) a w)
    (h : ∀ (Q' : Exit → Act → World → Prop) (K' : Act → World → Prop), Hid (Q' = Q) → (∀ a' w', Q .normal a' w' → K' a' w') → seqC P l.toArray Q' w.drew K' (planOps l plan) a w.drew) : (Code.region id l.toArray true).wp P Q a w := by
  simp only [planOk2, Bool.and_eq_true, List.all_eq_true, decide_eq_true_eq] at hB
  obtain ⟨⟨⟨hsel, hin⟩, hlen⟩, hpl⟩ := hB
  refine wp_region_any hm ?_
  have e : planOps l plan = plan.map fun x => (x.1, l.toArray.getD x.2 default) := by
    unfold planOps; refine List.map_congr_left fun x _ => ?_
    simp [List.getD]
  have := wpAnyX_plan2 (P := P) (Q := Q) (md := .any) (w0 := w.drew) hsel hQ plan _ a w.drew hin hpl ClosedL.start ⟨fun _ => rfl, fun _ => Below.refl _ _⟩ (e ▸ h Q _ rfl (fun _ _ h => h))
  rw [hlen] at this
  exact wpAny_of_X _ _ _ _ this

end
end Go.Proofs.MyK
