/-
  copy of a slice of bytes into a row of one's own.
-/
import Derived.Test.YtddiamocnkffjaaK5
import Derived.Laws.IdiomCopy
namespace Go.Proofs.MyK
open Go.RowKit
theorem take_set_drop (xs : List Int) (o : Nat) (y : Int) (r : List Int) (h : o + 1 + r.length ≤ xs.length) :
    (xs.set o y).take (o + 1) ++ r ++ (xs.set o y).drop (o + 1 + r.length) = xs.take o ++ (y :: r) ++ xs.drop (o + (r.length + 1)) := by
  rw [List.drop_set_of_lt (by omega), List.take_add_one, List.take_set_of_le (by omega), List.getElem?_set_self (by omega), show o + 1 + r.length = o + (r.length + 1) by omega]
  simp
theorem IRow.setCells {g : Nat} {T : TypeId} {kd : IntKind} : ∀ (ys : List Int) (o : Nat) (w : World) (xs : List Int), IRow w g T kd xs → o + ys.length ≤ xs.length →
    IRow (w.setCells g o (ys.map (Value.int kd))) g T kd (xs.take o ++ ys ++ xs.drop (o + ys.length)) ∧ w.grownBy (w.setCells g o (ys.map (Value.int kd))) (some g)
  | [], o, w, xs, h, _ => by
    refine ⟨?_, grown_refl _ _⟩
    simpa [World.setCells] using h
  | y :: r, o, w, xs, h, hl => by
    simp at hl
    have ih := IRow.setCells r (o + 1) (w.setCell ⟨g, o, none⟩ (.int kd y)) (xs.set o y) (h.set o y) (by simp; omega)
    refine ⟨?_, grown_trans (setCell_grown w g o _) ih.2⟩
    have h1 := ih.1
    rw [take_set_drop xs o y r (by omega)] at h1
    exact h1
section
variable {P : Program} (w : World)
theorem run_copy_bs (dT sT ty e : TypeId) (hu : P.underlying dT = some (.slice e)) (hs : (P.info? e).map (·.size) = some 1) (g dLen dCap : Nat) {T : TypeId} {xs : List Int} (hr : IRow w g T .u8 xs) (hdl : dLen ≤ xs.length)
    (y : Value) (l : List Int) (hx : Bs w y l) :
    ∃ w', (Builtin.copy_ #[dT, sT] ty #[.slice (some ⟨g, 0, none⟩) dLen dCap, y]).run P w = .ok (goInt ((min l.length dLen : Nat) : Int)) w' ∧ IRow w' g T .u8 (l.take dLen ++ xs.drop (min l.length dLen)) ∧ w.grownBy w' (some g) := by
  obtain ⟨h0, a, c, rfl, h1, h2, h3, h4⟩ := hx
  cases a with
  | none =>
    have hc := h3 rfl
    have : l = [] := List.eq_nil_of_length_eq_zero (by omega)
    subst this; subst hc
    exact ⟨w, by rw [show min ([] : List Int).length dLen = 0 by simp]; exact run_copy_none w dT sT ty e _ _ _ _ _ _ hu hs (Nat.zero_min _), by simpa using hr, grown_refl _ _⟩
  | some ad =>
    rcases Nat.eq_zero_or_pos l.length with hl0 | hlp
    · have : l = [] := List.eq_nil_of_length_eq_zero hl0
      subst this
      exact ⟨w, by rw [show min ([] : List Int).length dLen = 0 by simp]; exact run_copy_none w dT sT ty e _ _ _ _ _ _ hu hs (Nat.zero_min _), by simpa using hr, grown_refl _ _⟩
    obtain ⟨b, off, rfl, h5⟩ := h4 ad rfl (by omega)
    have hlen : (l.take dLen).length = min l.length dLen := by simp [Nat.min_comm]
    have hrun := run_copy_cells (P := P) w dT sT ty e g 0 dLen dCap ⟨b, off, none⟩ l.length c ((l.take dLen).map (Value.int .u8)) hu hs (by rw [List.length_map, hlen])
      (fun j v hj => by
        have hjl : j < (l.take dLen).length := by
          rcases Nat.lt_or_ge j (l.take dLen).length with h | h
          · exact h
          · rw [List.getElem?_eq_none (by rw [List.length_map]; exact h)] at hj; cases hj
        rw [hlen] at hjl
        have e1 : (⟨b, off, none⟩ : Addr).add j = ⟨b, off + j, none⟩ := by unfold Addr.add; split <;> simp_all
        rw [e1, (h5 (by omega)).cell j (by omega), ← hj]
        have hj1 : j < l.length := by omega
        have hj2 : j < dLen := by omega
        simp [List.getD_eq_getElem?_getD, hj1, hj2])
      (fun j hj => by
        rw [List.length_map, hlen] at hj
        rw [hr.cell (by omega)]; rfl)
      (fun j hj => hr.frozen _) (fun v hv => by obtain ⟨z, _, rfl⟩ := List.mem_map.1 hv; rfl)
    have hset := IRow.setCells (l.take dLen) 0 w xs hr (by rw [hlen]; omega)
    rw [List.length_map, hlen] at hrun
    rw [hlen] at hset
    exact ⟨_, hrun, by simpa using hset.1, hset.2⟩
theorem wp_copy_bs {o : Oper} {a : Act} {K : Act → World → Prop} {Q : Exit → Act → World → Prop} (d x : Operand) (dT sT : TypeId)
    (ho : o.op = .call { callee := .builtin .copy, args := #[d, x], argTypes := #[dT, sT] }) (e : TypeId) (hu : P.underlying dT = some (.slice e)) (hs : (P.info? e).map (·.size) = some 1) (g dLen dCap : Nat)
    (hd : a.eval d = .slice (some ⟨g, 0, none⟩) dLen dCap) {T : TypeId} {xs : List Int} (hr : IRow w g T .u8 xs) (hdl : dLen ≤ xs.length) (y : Value) (hy : a.eval x = y) (l : List Int) (hx : Bs w y l)
    (h : ∀ w', IRow w' g T .u8 (l.take dLen ++ xs.drop (min l.length dLen)) → w.grownBy w' (some g) → K (a.put o.dst (goInt ((min l.length dLen : Nat) : Int))) w') : o.wp P a w K Q := by
  obtain ⟨w', hrun, h1, h2⟩ := run_copy_bs (P := P) w dT sT o.type e hu hs g dLen dCap hr hdl y l hx
  unfold Oper.wp execOp
  simp only [ho, resolve, invoke, builtin, Sem.run_bind, Sem.run_pure, Result.andThen_ok, List.map_toArray, List.map_cons, List.map_nil, hd, hy, hrun]
  exact h w' h1 h2
end
end Go.Proofs.MyK
