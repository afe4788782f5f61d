/-
  append(m, make([]byte, k)...) onto bytes of one's own.
-/
import Derived.Test.YtddiamocnkffjaaK6
import Derived.Lib.AppendZeros
import Derived.Lib.AppendZerosOnto
namespace Go.Proofs.MyK
open Go.RowKit
theorem vtake_set_drop (xs : List Value) (o : Nat) (y : Value) (r : List Value) (h : o + 1 + r.length ≤ xs.length) :
    (xs.set o y).take (o + 1) ++ r ++ (xs.set o y).drop (o + 1 + r.length) = xs.take o ++ (y :: r) ++ xs.drop (o + (r.length + 1)) := by
  rw [List.drop_set_of_lt (by omega), List.take_add_one, List.take_set_of_le (by omega), List.getElem?_set_self (by omega), show o + 1 + r.length = o + (r.length + 1) by omega]
  simp
theorem VRow.setCells {g : Nat} {T : TypeId} : ∀ (ys : List Value) (o : Nat) (w : World) (xs : List Value), VRow w g T xs → o + ys.length ≤ xs.length →
    VRow (w.setCells g o ys) g T (xs.take o ++ ys ++ xs.drop (o + ys.length)) ∧ w.grownBy (w.setCells g o ys) (some g)
  | [], o, w, xs, h, _ => by
    refine ⟨?_, grown_refl _ _⟩
    simpa [World.setCells] using h
  | y :: r, o, w, xs, h, hl => by
    simp at hl
    have ih := VRow.setCells r (o + 1) (w.setCell ⟨g, o, none⟩ y) (xs.set o y) (h.set o y) (by simp; omega)
    refine ⟨?_, grown_trans (setCell_grown w g o _) ih.2⟩
    have h1 := ih.1
    rw [vtake_set_drop xs o y r (by omega)] at h1
    exact h1
theorem zeroCells_u8 (k : Nat) : Builtin.zeroCells (Value.cells (.int .u8 0)) k = (List.replicate k (Value.int .u8 0)).toArray := by
  apply Array.ext
  · simp [Builtin.zeroCells, Value.cells]
  · intro i h1 h2
    have h3 : i % 1 = 0 := by omega
    simp [Builtin.zeroCells, Value.cells, h3]
section
variable {P : Program} (w : World)
theorem run_append_zs (base : Nat) (t tn ty e : TypeId) (i : TypeInfo) (kn : IntKind) (ht : P.underlying t = some (.slice e)) (htn : P.underlying tn = some (.int kn)) (hi : P.info? e = some i) (hz : i.zero = some (.int .u8 0)) (hsize : i.size = 1) (hby : i.bytes = 1)
    (v : Value) (n : Nat) (xs : List Int) (hown : w.ownsRow base e 1 v n (xs.map (Value.int .u8))) (kq : IntKind) (k : Nat) (hm : n + k ≤ 140737488355328) (hbase : base ≤ w.heap.size) :
    ∃ v' w', (Builtin.append_ #[t, tn] ty #[v, .int kq k]).run P w = .ok v' w' ∧ w'.ownsRow base e 1 v' (n + k) ((xs ++ List.replicate k 0).map (Value.int .u8)) ∧ w.grownBy w' v.ownBlock ∧ (∀ b, v'.ownBlock = some b → v.ownBlock = some b ∨ w.heap.size ≤ b) := by
  have hlen := hown.1
  rw [List.length_map] at hlen
  have hw : IntKind.i64.wrap (k : Int) = k := by rw [IntKind.wrap_i64]; omega
  have hneg : ¬ ((k : Int) < 0) := by omega
  have h48i : ¬ (281474976710656 < (k : Int)) := by omega
  rcases Nat.eq_zero_or_pos k with hk | hk
  · subst hk
    refine ⟨v, w, ?_, by simpa using hown, grown_refl _ _, fun b h => .inl h⟩
    rcases hown.2 with ⟨rfl, rfl⟩ | ⟨g, cap, cur, rfl, hbg, hg, hnc, hcm, hcs, htake⟩
    · simp [Builtin.append_, run_underlying ht, run_underlying htn, sizeOf, typeInfo, zeroValue, hi, hz, asInt, asIntOf, hsize, hby, IntKind.wrap_i64]
    · simp [Builtin.append_, run_underlying ht, run_underlying htn, sizeOf, typeInfo, zeroValue, hi, hz, asInt, asIntOf, hsize, hby, IntKind.wrap_i64, hnc, storeCells]
  · have hgrow : ∀ (cap : Nat) (b : Option Addr), cap < n + k → (Builtin.append_ #[t, tn] ty #[v, .int kq k]).run P w =
        .ok (.slice (some ⟨w.heap.size, 0, none⟩) (n + k) (grownCap w (n + k) cap e)) (w.drew.alloc (.cells ((xs.map (Value.int .u8)).toArray ++ Builtin.zeroCells (Value.cells (.int .u8 0)) k ++ Builtin.zeroCells (Value.cells (.int .u8 0)) (grownCap w (n + k) cap e - (n + k))) e)) →
        ∃ v' w', (Builtin.append_ #[t, tn] ty #[v, .int kq k]).run P w = .ok v' w' ∧ w'.ownsRow base e 1 v' (n + k) ((xs ++ List.replicate k 0).map (Value.int .u8)) ∧ w.grownBy w' v.ownBlock ∧ (∀ b, v'.ownBlock = some b → v.ownBlock = some b ∨ w.heap.size ≤ b) := by
      intro cap b hcap hr
      have hge := grownCap_ge w (n + k) cap e
      have hcm : grownCap w (n + k) cap e ≤ maxLen := grownCap_le_maxLen w (n + k) cap e (by unfold maxLen; omega)
      have hl2 : ((xs ++ List.replicate k 0).map (Value.int .u8)).length = n + k := by simp; omega
      refine ⟨_, _, hr, ⟨by rw [hl2, Nat.mul_one], .inr ⟨w.heap.size, _, _, rfl, hbase, heap_alloc_new w.drew _, hge, hcm, ?_, ?_⟩⟩, ⟨rfl, rfl, rfl, by simp, fun j hj _ => heap_alloc_old w.drew _ hj⟩, fun b hb => by simp [Value.ownBlock] at hb; right; omega⟩
      · rw [zeroCells_u8, zeroCells_u8]; simp; omega
      · rw [zeroCells_u8, zeroCells_u8, Nat.mul_one, ← hl2]
        simp [List.take_append]
        exact List.take_of_length_le (by simp)
    rcases hown.2 with ⟨rfl, rfl⟩ | ⟨g, cap, cur, rfl, hbg, hg, hnc, hcm, hcs, htake⟩
    · have hx : xs = [] := List.eq_nil_of_length_eq_zero (by simpa using hlen)
      subst hx
      refine hgrow 0 none (by omega) ?_
      have hr := Lib.run_append_nil_zeros w t tn ty e i (.int .u8 0) kq kn ht htn hi hz k hk (by omega) (by omega) (by rw [hby]; omega)
      simp only [Nat.zero_add]
      simpa using hr
    · by_cases hroom : n + k ≤ cap
      · rw [Nat.mul_one] at hcs
        have hv : VRow w g e cur.toList := by simpa [VRow] using hg
        have hset := VRow.setCells (List.replicate k (Value.int .u8 0)) n w cur.toList hv (by simp; omega)
        rw [List.length_replicate] at hset
        have hst := run_storeCells_cells (P := P) g n (List.replicate k (Value.int .u8 0)) 0 w
          (fun j hj => by rw [hv.cell (v := cur.toList[n + 0 + j]'(by simp at hj ⊢; omega)) (by simp at hj; simp)]; rfl)
          (fun j hj => hv.frozen _) (fun u hu => by rw [List.eq_of_mem_replicate hu]; rfl)
        refine ⟨.slice (some ⟨g, 0, none⟩) (n + k) cap, w.setCells g n (List.replicate k (Value.int .u8 0)), ?_, ⟨by simp; omega, .inr ⟨g, cap, _, rfl, hbg, hset.1, hroom, hcm, ?_, ?_⟩⟩, hset.2, fun b h => .inl h⟩
        · have hadd : (⟨g, 0, none⟩ : Addr).add n = ⟨g, n, none⟩ := by unfold Addr.add; split <;> simp_all
          have hk0 : ¬ (k = 0) := by omega
          simp [Builtin.append_, run_underlying ht, run_underlying htn, sizeOf, typeInfo, zeroValue, hi, hz, asInt, asIntOf, hsize, hby, hw, hneg, h48i, hroom, hk0, hadd, zeroCells_u8]
          have hst' : (storeCells ⟨g, n, none⟩ (List.replicate k (Value.int .u8 0))).run P w = .ok () (w.setCells g n (List.replicate k (Value.int .u8 0))) := by simpa using hst
          simp [hst']
        · simp; omega
        · have h3 : cur.toList.take n = xs.map (Value.int .u8) := by simpa using htake
          simp only [Nat.mul_one]
          have h4 : (cur.toList.take n ++ List.replicate k (Value.int .u8 0)).length = n + k := by simp; omega
          rw [← h4, List.take_left, h3]
          simp
      · refine hgrow cap (some ⟨g, 0, none⟩) (by omega) ?_
        have holds : ∀ j u, (xs.map (Value.int .u8))[j]? = some u → w.cell? ((⟨g, 0, none⟩ : Addr).add j) = some u := hown.cells (g := g) rfl
        have hl := run_loadCells_list (P := P) w.drew ⟨g, 0, none⟩ (xs.map (Value.int .u8)) (fun j u hj => holds j u hj)
        have hold : (Builtin.firstCells i.size n (.slice (some ⟨g, 0, none⟩) n cap)).run P w.drew = .ok (xs.map (Value.int .u8)).toArray w.drew := by
          rw [hsize]
          simp only [Builtin.firstCells, Nat.mul_one]
          rw [List.length_map] at hl
          rw [show n = xs.length by omega]
          exact hl
        exact Lib.run_append_grow_zeros w t tn ty e i (.int .u8 0) kq kn ht htn hi hz (some ⟨g, 0, none⟩) n cap (xs.map (Value.int .u8)) hold k hk (by omega) (by omega) (by omega) (by rw [hby]; omega) (growslice_fits (by omega) (by rw [hby]; omega))
theorem wpList_append_zs {ops : Array Oper} {rest : List Oper} {o : Oper} {a : Act} {Q : Exit → Act → World → Prop} (hgd : o.guard = none) (s x : Operand) (t tn : TypeId)
    (ho : o.op = .call { callee := .builtin .append, args := #[s, x], argTypes := #[t, tn] })
    (base : Nat) (e : TypeId) (i : TypeInfo) (kn : IntKind) (ht : P.underlying t = some (.slice e)) (htn : P.underlying tn = some (.int kn)) (hi : P.info? e = some i) (hz : i.zero = some (.int .u8 0)) (hsize : i.size = 1) (hby : i.bytes = 1)
    (v : Value) (n : Nat) (xs : List Int) (hs : a.eval s = v) (hown : w.ownsRow base e 1 v n (xs.map (Value.int .u8))) (kq : IntKind) (k : Nat) (hx : a.eval x = .int kq (k : Int)) (hm : n + k ≤ 140737488355328) (hbase : base ≤ w.heap.size)
    (h : ∀ v' w', w'.ownsRow base e 1 v' (n + k) ((xs ++ List.replicate k 0).map (Value.int .u8)) → w.grownBy w' v.ownBlock → (∀ b, v'.ownBlock = some b → v.ownBlock = some b ∨ w.heap.size ≤ b) → wpList P ops Q rest (a.put o.dst v') w') : wpList P ops Q (o :: rest) a w := by
  obtain ⟨v', w', hr, h1, h2, h3⟩ := run_append_zs (P := P) w base t tn o.type e i kn ht htn hi hz hsize hby v n xs hown kq k hm hbase
  exact Lib.wpList_append_run w hgd s x t tn ho v _ hs hx v' w' hr (h v' w' h1 h2 h3)
end
end Go.Proofs.MyK
