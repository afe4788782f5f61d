/-
  A load of a whole row inside a region that goes in the text's order, with or without a guard; likewise a store.
-/
import Derived.Test.YtddiamocnkffjaaK
import Derived.Test.YtddiamocnkffjaaR
namespace Go.Proofs.MyK
open Go.RowKit
section
variable {P : Program} {ops : Array Oper} {rest : List Oper} {o : Oper} {a : Act} {w : World} {Q : Exit → Act → World → Prop}
theorem wpList_load_vrow (hw : Region.wanted o (yielded ops a.tmps) = true) {ty : TypeId} {x : Operand} (ho : o.op = .load ty x) {g : Nat} (hx : a.eval x = .pointer (some ⟨g, 0, none⟩)) {T : TypeId} {xs : List Value} {d : TypeDesc} (hv : VRow w g T xs)
    (hu : P.underlying ty = some d) (hd : (match d with | .struct _ | .array _ _ => true | _ => false) = true) (hi : (P.info? ty).map (·.size) = some xs.length)
    (h : wpList P ops Q rest (a.put o.dst (.agg xs.toArray)) w) : wpList P ops Q (o :: rest) a w :=
  wpList_step fun K hK => by
    rw [if_pos hw]
    exact wp_load_row ty x ho g hx T xs.toArray (0, 0) d hv hu hd (by simpa using hi) (hK _ _ h)
theorem wpList_store_vrow (hw : Region.wanted o (yielded ops a.tmps) = true) {ty : TypeId} {x y : Operand} (ho : o.op = .store ty x y) {g : Nat} (hx : a.eval x = .pointer (some ⟨g, 0, none⟩)) {ys : List Value} (hy : a.eval y = .agg ys.toArray) {T : TypeId} {xs : List Value} (hv : VRow w g T xs)
    (hi : (P.info? ty).map (·.size) = some ys.length) (hl : xs.length = ys.length) (h1 : ys.all (·.oneCell') = true)
    (h : ∀ w', w' = w.setRow g ys.toArray → VRow w' g T ys → wpList P ops Q rest (a.put o.dst undef) w') : wpList P ops Q (o :: rest) a w :=
  wpList_step fun K hK => by
    rw [if_pos hw]
    exact wp_store_row ty x y ho g ys.toArray hx hy T xs.toArray hv (by simpa using hi) (by simpa using hl) (by simpa using h1) (hK _ _ (h _ rfl (hv.setRow ys)))
end
end Go.Proofs.MyK
