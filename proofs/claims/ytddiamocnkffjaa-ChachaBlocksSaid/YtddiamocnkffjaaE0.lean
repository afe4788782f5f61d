/-
  '==' of two arrays of integers, over any program.
-/
import Derived.WalkKit
import Derived.DeepKeys
namespace Go.Proofs.MyK
open Go.RowKit
section
variable {P : Program}
theorem run_part_int (w : World) {e : TypeId} {k' : IntKind} (he : P.underlying e = some (.int k')) (cs : Array Value) (off : Nat) (v : Value) (h : cs[off]? = some v) : (part e cs off).run P w = .ok v w := by
  have hagg : (isAgg e).run P w = .ok false w := by
    unfold isAgg; rw [Sem.run_bind, run_underlying he w]; rfl
  simp [part, Sem.run_bind, hagg, h]
theorem run_eqItems_ints (d : Nat) {e : TypeId} {k' : IntKind} (he : P.underlying e = some (.int k')) (k : IntKind) (xs ys : List Int) : ∀ (is : List Nat) (w : World), (∀ i ∈ is, i < xs.length ∧ i < ys.length) →
    (Op.eqItems (d + 1) e 1 (xs.map (Value.int k)).toArray (ys.map (Value.int k)).toArray is).run P w = .ok (is.all fun i => xs.getD i 0 == ys.getD i 0) w
  | [], w, _ => by simp [Op.eqItems]
  | i :: is, w, h => by
    obtain ⟨h1, h2⟩ := h i (by simp)
    have ih := run_eqItems_ints d he k xs ys is w (fun j hj => h j (by simp [hj]))
    have p1 := run_part_int w he (xs.map (Value.int k)).toArray (i * 1) (.int k (xs.getD i 0)) (by simp [h1, List.getD])
    have p2 := run_part_int w he (ys.map (Value.int k)).toArray (i * 1) (.int k (ys.getD i 0)) (by simp [h2, List.getD])
    simp only [Op.eqItems, Sem.run_bind, p1, p2, Result.andThen_ok, run_equalIn_int w d e k k' _ _ he, List.all_cons]
    cases hb : (xs.getD i 0 == ys.getD i 0)
    · simp
    · simpa using ih
theorem all_range_eq (xs ys : List Int) (h : xs.length = ys.length) : ((List.range xs.length).all fun i => xs.getD i 0 == ys.getD i 0) = decide (xs = ys) := by
  rw [Bool.eq_iff_iff, decide_eq_true_eq, List.all_eq_true]
  constructor
  · intro hall
    refine List.ext_getElem h fun i h1 h2 => ?_
    have := hall i (by simpa using h1)
    simpa [List.getD, h1, h2] using this
  · rintro rfl i _; simp
theorem run_eql_ints (w : World) {t e : TypeId} {n : Nat} {i : TypeInfo} {k' : IntKind} (hu : P.underlying t = some (.array n e)) (he : P.underlying e = some (.int k')) (hi : P.info? e = some i) (hc : P.cellsOf e = 1) (k : IntKind) (xs ys : List Int) (hx : xs.length = n) (hy : ys.length = n) :
    (Op.equalIn 10000 t (.agg (xs.map (Value.int k)).toArray) (.agg (ys.map (Value.int k)).toArray)).run P w = .ok (decide (xs = ys)) w := by
  rw [show (10000 : Nat) = 9999 + 1 from rfl, run_equalIn_array w 9999 _ _ hu hi, hc, show (9999 : Nat) = 9998 + 1 from rfl, run_eqItems_ints 9998 he k xs ys (List.range n) w (by intro j hj; simp at hj; omega), ← hx, all_range_eq xs ys (by omega)]
end
end Go.Proofs.MyK
