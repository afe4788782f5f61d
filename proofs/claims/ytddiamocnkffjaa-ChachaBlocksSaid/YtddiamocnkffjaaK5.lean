/-
  A slice of bytes, wherever it lies; appending one; its string.
-/
import Derived.Test.YtddiamocnkffjaaK4
import Derived.Laws.OwnMore
import Derived.Deep.AppendLies
import Derived.Deep.Onto
import Derived.Laws.BytesArg
import Derived.Maps.AppendAt
namespace Go.Proofs.MyK
open Go.RowKit
/-- The bytes l are what the slice value v reads. -/
def Bs (w : World) (v : Value) (l : List Int) : Prop :=
  (∀ x ∈ l, 0 ≤ x ∧ x < 256) ∧ ∃ a c, v = .slice a l.length c ∧ l.length ≤ c ∧ c ≤ maxLen ∧ (a = none → c = 0) ∧ (∀ ad, a = some ad → 0 < c → ∃ b off, ad = ⟨b, off, none⟩ ∧ (0 < l.length → At w b off l.length (fun k => l.getD k 0)))
theorem getD_bd' {l : List Int} (h : ∀ x ∈ l, 0 ≤ x ∧ x < 256) (k : Nat) : 0 ≤ l.getD k 0 ∧ l.getD k 0 < 256 := by
  rw [List.getD_eq_getElem?_getD]
  cases hk : l[k]? with
  | none => simp
  | some x => exact h x (List.mem_of_getElem? hk)
theorem Bs.bd {w : World} {v : Value} {l : List Int} (h : Bs w v l) (k : Nat) : 0 ≤ l.getD k 0 ∧ l.getD k 0 < 256 := getD_bd' h.1 k
theorem Bs.belowS {w w' : World} {v : Value} {l : List Int} (h : Bs w v l) (hb : Below w.heap.size w w') : Bs w' v l := by
  obtain ⟨h0, a, c, rfl, h1, h2, h3, h4⟩ := h
  refine ⟨h0, a, c, rfl, h1, h2, h3, fun ad e hc => ?_⟩
  obtain ⟨b, off, rfl, h5⟩ := h4 ad e hc
  exact ⟨b, off, rfl, fun hp => (h5 hp).belowS hb⟩
theorem Bs.alloc {w : World} {v : Value} {l : List Int} (h : Bs w v l) (o : Obj) : Bs (w.alloc o) v l := h.belowS (bel_alloc (Below.refl _ _) o)
theorem Bs.drew {w : World} {v : Value} {l : List Int} (h : Bs w v l) : Bs w.drew v l := h.belowS (bel_drew (Below.refl _ _))
/-- Old bytes, behind a call that writes only what is younger than B. -/
theorem Bs.nil (w : World) : Bs w (.slice none 0 0) [] := ⟨by simp, none, 0, rfl, by simp, by unfold maxLen; omega, fun _ => rfl, fun ad h => by cases h⟩
/-- Bytes of one's own. -/
theorem Bs.owns {w : World} {base : Nat} {e : TypeId} {v : Value} {l : List Int} (h : w.ownsRow base e 1 v l.length (l.map (Value.int .u8))) (hl : ∀ x ∈ l, 0 ≤ x ∧ x < 256) : Bs w v l := by
  have h' := h
  rcases h.2 with ⟨rfl, h0⟩ | ⟨g, cap, cur, rfl, hb, hg, h1, h2, h3, h4⟩
  · have : l = [] := List.eq_nil_of_length_eq_zero h0
    subst this
    exact Bs.nil w
  · refine ⟨hl, _, cap, rfl, h1, h2, (fun e => by cases e), fun ad e => ?_⟩
    cases e
    intro _
    refine ⟨g, 0, rfl, fun hp => ⟨(h'.lt g rfl).2, fun k hk => ?_⟩⟩
    show w.cell? ⟨g, 0 + k, none⟩ = some (Value.int .u8 (l.getD k 0))
    rw [Nat.zero_add, h'.cellAt k (by omega)]
    simp [List.getD_eq_getElem?_getD, hk]
theorem Bs.ofAt {w : World} {b off c : Nat} {l : List Int} (h : At w b off l.length (fun k => l.getD k 0)) (hl : ∀ x ∈ l, 0 ≤ x ∧ x < 256) (hc : l.length ≤ c) (hm : c ≤ maxLen) : Bs w (.slice (some ⟨b, off, none⟩) l.length c) l :=
  ⟨hl, _, c, rfl, hc, hm, (fun e => by cases e), fun ad e _ => by cases e; exact ⟨b, off, rfl, fun _ => h⟩⟩
theorem bel_grown {w w' : World} (h : Below w.heap.size w w') (r : Option Nat) : w.grownBy w' r := ⟨h.os, h.tape, h.output, h.size, fun b hb _ => h.block b hb⟩
theorem owns_belowS {w w' : World} {base size n : Nat} {e : TypeId} {v : Value} {xs : List Value} (h : w.ownsRow base e size v n xs) (hb : Below w.heap.size w w') : w'.ownsRow base e size v n xs :=
  h.kept (bel_grown hb none) (by cases hv : v.ownBlock <;> simp)
theorem owns_drew {w : World} {base size n : Nat} {e : TypeId} {v : Value} {xs : List Value} (h : w.ownsRow base e size v n xs) : w.drew.ownsRow base e size v n xs := owns_belowS h (bel_drew (Below.refl _ _))
/-- A part of it. -/
theorem Bs.part {w : World} {a : Option Addr} {n c : Nat} {l : List Int} (h : Bs w (.slice a n c) l) (i m : Nat) (him : i + m ≤ n) : Bs w (.slice (if c = i then a else a.map (·.add (i * 1))) m (c - i)) ((l.drop i).take m) := by
  obtain ⟨h0, a', c', e, h1, h2, h3, h4⟩ := h
  injection e with e1 e2 e3
  subst e1 e2 e3
  have hlen : ((l.drop i).take m).length = m := by simp; omega
  refine ⟨fun x hx => h0 x (List.mem_of_mem_drop (List.mem_of_mem_take hx)), _, c - i, by rw [hlen], by rw [hlen]; omega, by omega, fun hn => ?_, fun ad e hcc => ?_⟩
  · split at hn
    · have := h3 hn; omega
    · cases a with
      | none => have := h3 rfl; omega
      | some ad => simp at hn
  · rw [hlen]
    by_cases hci : c = i
    · omega
    · rw [if_neg hci] at e
      cases a with
      | none => cases e
      | some ad' =>
        obtain ⟨b, off, rfl, h5⟩ := h4 ad' rfl (by omega)
        simp only [Option.map_some, Option.some.injEq] at e
        subst e
        refine ⟨b, off + i, by simp [Addr.add], fun hp => ?_⟩
        have h6 := h5 (by omega)
        refine ⟨h6.lt, fun k hk => ?_⟩
        rw [Nat.add_assoc, h6.cell (i + k) (by omega)]
        have e1 : ((l.drop i).take m).getD k 0 = l.getD (i + k) 0 := by simp [List.getD_eq_getElem?_getD, List.getElem?_take, hk, List.getElem?_drop]
        rw [e1]
theorem Bs.at {w : World} {a : Option Addr} {n c : Nat} {l : List Int} (h : Bs w (.slice a n c) l) (hp : 0 < n) : ∃ b off, a = some ⟨b, off, none⟩ ∧ At w b off n (fun k => l.getD k 0) := by
  obtain ⟨h0, a', c', e, h1, h2, h3, h4⟩ := h
  injection e with e1 e2 e3
  subst e1 e2 e3
  cases a with
  | none => have := h3 rfl; omega
  | some ad => obtain ⟨b, off, rfl, h5⟩ := h4 ad rfl (by omega); exact ⟨b, off, rfl, h5 hp⟩
theorem Bs.form {w : World} {v : Value} {l : List Int} (h : Bs w v l) : ∃ a c, v = .slice a l.length c ∧ l.length ≤ c ∧ c ≤ maxLen := by
  obtain ⟨h0, a', c', e, h1, h2, h3, h4⟩ := h
  exact ⟨a', c', e, h1, h2⟩
section
variable {P : Program} (w : World)
theorem run_append_bs (base : Nat) (t ty e : TypeId) (i : TypeInfo) (ht : P.underlying t = some (.slice e)) (hi : P.info? e = some i) (hz : i.zero = some (.int .u8 0)) (hsize : i.size = 1) (hby : i.bytes = 1)
    (v : Value) (n : Nat) (xs : List Int) (hown : w.ownsRow base e 1 v n (xs.map (Value.int .u8))) (x : Value) (l : List Int) (hx : Bs w x l) (hm : n + l.length ≤ 140737488355328) (hbase : base ≤ w.heap.size) :
    ∃ v' w', (Builtin.append_ #[t, t] ty #[v, x]).run P w = .ok v' w' ∧ w'.ownsRow base e 1 v' (n + l.length) ((xs ++ l).map (Value.int .u8)) ∧ w.grownBy w' v.ownBlock ∧ (∀ k, v'.ownBlock = some k → v.ownBlock = some k ∨ w.heap.size ≤ k) := by
  obtain ⟨h0, a, c, rfl, h1, h2, h3, h4⟩ := hx
  cases a with
  | none =>
    have hc := h3 rfl
    have : l = [] := List.eq_nil_of_length_eq_zero (by omega)
    subst this; subst hc
    refine ⟨v, w, run_append_owned_none w base t ty e i 1 ht hi v n _ hown, by simpa using hown, grown_refl _ _, fun k h => .inl h⟩
  | some ad =>
    rcases Nat.eq_zero_or_pos l.length with hl0 | hlp
    · have : l = [] := List.eq_nil_of_length_eq_zero hl0
      subst this
      obtain ⟨v', w', hr, ho, hg, _, h5'⟩ := run_append_own_at w base t ty e i (.int .u8 0) 1 1 ht hi hz hsize hby rfl (by decide) v n _ hown ad 0 c [] (by simp) (by simp) (by simp) (by unfold maxLen; simp at hm; omega) (by simp at hm; omega) hbase
      exact ⟨v', w', hr, by simpa using ho, hg, fun k hk => h5'.elim (fun e => .inl (e ▸ hk)) (fun e => .inr (by rw [e] at hk; injection hk with hk; omega))⟩
    obtain ⟨b, off, rfl, h5⟩ := h4 ad rfl (by omega)
    obtain ⟨v', w', hr, ho, hg, _, h5'⟩ := run_append_own_at w base t ty e i (.int .u8 0) 1 1 ht hi hz hsize hby rfl (by decide) v n _ hown ⟨b, off, none⟩ l.length c (l.map (Value.int .u8)) (by simp) (fun j u hj => by
      have hjl : j < l.length := by
        rcases Nat.lt_or_ge j l.length with h | h
        · exact h
        · simp [List.getElem?_eq_none h] at hj
      have e1 : (⟨b, off, none⟩ : Addr).add j = ⟨b, off + j, none⟩ := by unfold Addr.add; split <;> simp_all
      rw [e1, (h5 (by omega)).cell j hjl, ← hj]
      simp [List.getD_eq_getElem?_getD, hjl]) (fun u hu => by simp at hu; obtain ⟨y, _, rfl⟩ := hu; rfl) (by unfold maxLen; omega) (by omega) hbase
    exact ⟨v', w', hr, by simpa using ho, hg, fun k hk => h5'.elim (fun e => .inl (e ▸ hk)) (fun e => .inr (by rw [e] at hk; injection hk with hk; omega))⟩
theorem wp_append_bs {o : Oper} {a : Act} {K : Act → World → Prop} {Q : Exit → Act → World → Prop} (s x : Operand) (t : TypeId)
    (ho : o.op = .call { callee := .builtin .append, args := #[s, x], argTypes := #[t, t] })
    (base : Nat) (e : TypeId) (i : TypeInfo) (ht : P.underlying t = some (.slice e)) (hi : P.info? e = some i) (hz : i.zero = some (.int .u8 0)) (hsize : i.size = 1) (hby : i.bytes = 1)
    (v : Value) (n : Nat) (xs : List Int) (hs : a.eval s = v) (hown : w.ownsRow base e 1 v n (xs.map (Value.int .u8))) (y : Value) (hy : a.eval x = y) (l : List Int) (hx : Bs w y l) (hm : n + l.length ≤ 140737488355328) (hbase : base ≤ w.heap.size)
    (h : ∀ v' w', w'.ownsRow base e 1 v' (n + l.length) ((xs ++ l).map (Value.int .u8)) → w.grownBy w' v.ownBlock → (∀ k, v'.ownBlock = some k → v.ownBlock = some k ∨ w.heap.size ≤ k) → K (a.put o.dst v') w') : o.wp P a w K Q := by
  obtain ⟨v', w', hr, h2, h3, h4⟩ := run_append_bs (P := P) w base t o.type e i ht hi hz hsize hby v n xs hown y l hx hm hbase
  unfold Oper.wp execOp
  simp only [ho, resolve, invoke, builtin, Sem.run_bind, Sem.run_pure, Result.andThen_ok, List.map_toArray, List.map_cons, List.map_nil, hs, hy, hr]
  exact h v' w' h2 h3 h4
theorem wpList_append_bs {ops : Array Oper} {rest : List Oper} {o : Oper} {a : Act} {Q : Exit → Act → World → Prop} (hgd : o.guard = none) (s x : Operand) (t : TypeId)
    (ho : o.op = .call { callee := .builtin .append, args := #[s, x], argTypes := #[t, t] })
    (base : Nat) (e : TypeId) (i : TypeInfo) (ht : P.underlying t = some (.slice e)) (hi : P.info? e = some i) (hz : i.zero = some (.int .u8 0)) (hsize : i.size = 1) (hby : i.bytes = 1)
    (v : Value) (n : Nat) (xs : List Int) (hs : a.eval s = v) (hown : w.ownsRow base e 1 v n (xs.map (Value.int .u8))) (y : Value) (hy : a.eval x = y) (l : List Int) (hx : Bs w y l) (hm : n + l.length ≤ 140737488355328) (hbase : base ≤ w.heap.size)
    (h : ∀ v' w', w'.ownsRow base e 1 v' (n + l.length) ((xs ++ l).map (Value.int .u8)) → w.grownBy w' v.ownBlock → (∀ k, v'.ownBlock = some k → v.ownBlock = some k ∨ w.heap.size ≤ k) → wpList P ops Q rest (a.put o.dst v') w') : wpList P ops Q (o :: rest) a w :=
  wpList_plain hgd fun _ hK => wp_append_bs w s x t ho base e i ht hi hz hsize hby v n xs hs hown y hy l hx hm hbase fun v' w' h2 h3 h4 => hK _ _ (h v' w' h2 h3 h4)
/-- string(b). -/
theorem run_string_bs (src e : TypeId) (hs : P.underlying src = some (.slice e)) (he : P.underlying e = some (.int .u8)) (x : Value) (l : List Int) (hx : Bs w x l) (dst : TypeId) (hd : P.underlying dst = some .string) :
    (convert src dst x).run P w = .ok (.string (strOfNums l)) w := by
  obtain ⟨h0, a, c, rfl, h1, h2, h3, h4⟩ := hx
  cases a with
  | none =>
    have hc := h3 rfl
    have : l = [] := List.eq_nil_of_length_eq_zero (by omega)
    subst this
    rw [run_convert_bytes_nil w src e hs he _ _ dst hd]; rfl
  | some ad =>
    rcases Nat.eq_zero_or_pos l.length with hl0 | hlp
    · have : l = [] := List.eq_nil_of_length_eq_zero hl0
      subst this
      have hl := run_loadCells_list (P := P) w ad [] (by simp)
      rw [run_convert_bytes_string w src dst e _ _ c hs he hd, run_bytesToString w ad _ c [] (by simpa using hl), foldl_push_bytes]
      rfl
    obtain ⟨b, off, rfl, h5⟩ := h4 ad rfl (by omega)
    exact run_convert_bytes_arg w src e hs he b off _ c l rfl (fun k hk => (h5 (by omega)).cell k hk) dst hd
end
end Go.Proofs.MyK
