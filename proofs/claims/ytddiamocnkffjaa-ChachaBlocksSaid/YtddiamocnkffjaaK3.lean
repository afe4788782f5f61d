/-
  What a call leaves that writes to one block alone.
-/
import Derived.Test.YtddiamocnkffjaaK2
import Derived.Laws.AppendOwn
namespace Go.Proofs.MyK
open Go.RowKit
theorem grown_refl (w : World) (r : Option Nat) : w.grownBy w r := ⟨rfl, rfl, rfl, Nat.le_refl _, fun _ _ _ => rfl⟩
theorem grown_drew {w w' : World} {r : Option Nat} (h : w.grownBy w' r) : w.grownBy w'.drew r := ⟨h.os, h.tape, h.output, h.size, h.block⟩
theorem grown_set {w w' : World} {g : Nat} (h : w.grownBy w' (some g)) (k : Nat) (v : Value) : w.grownBy (w'.setCell ⟨g, k, none⟩ v) (some g) := by
  refine ⟨?_, ?_, ?_, ?_, fun b hb hne => ?_⟩
  · rw [← h.os]; exact (Below.setCell (Below.refl 0 w') (Nat.zero_le _) v).os
  · rw [← h.tape]; exact (Below.setCell (Below.refl 0 w') (Nat.zero_le _) v).tape
  · rw [← h.output]; exact (Below.setCell (Below.refl 0 w') (Nat.zero_le _) v).output
  · exact Nat.le_trans h.size (Below.setCell (Below.refl 0 w') (Nat.zero_le _) v).size
  · rw [Below.heap_setCell w' _ v b (fun e => hne (by rw [e])), h.block b hb hne]
theorem grown_alloc {w w' : World} {r : Option Nat} (h : w.grownBy w' r) (o : Obj) : w.grownBy (w'.alloc o) r := by
  have hb : Below w'.heap.size w' (w'.alloc o) := bel_alloc (Below.refl _ _) o
  exact ⟨hb.os.trans h.os, hb.tape.trans h.tape, hb.output.trans h.output, Nat.le_trans h.size hb.size, fun k hk hne => (hb.block k (Nat.lt_of_lt_of_le hk h.size)).trans (h.block k hk hne)⟩
theorem grown_below {w w' w'' : World} {r : Option Nat} (h : w.grownBy w' r) (hb : Below w'.heap.size w' w'') : w.grownBy w'' r :=
  ⟨hb.os.trans h.os, hb.tape.trans h.tape, hb.output.trans h.output, Nat.le_trans h.size hb.size, fun k hk hne => (hb.block k (Nat.lt_of_lt_of_le hk h.size)).trans (h.block k hk hne)⟩
theorem grown_trans {w w' w'' : World} {r : Option Nat} (h : w.grownBy w' r) (h' : w'.grownBy w'' r) : w.grownBy w'' r :=
  ⟨h'.os.trans h.os, h'.tape.trans h.tape, h'.output.trans h.output, Nat.le_trans h.size h'.size, fun k hk hne => (h'.block k (Nat.lt_of_lt_of_le hk h.size) hne).trans (h.block k hk hne)⟩
theorem below_grown {w w' w'' : World} {g : Nat} (h : Below w.heap.size w w') (hg : w'.grownBy w'' (some g)) (hle : w.heap.size ≤ g) : Below w.heap.size w w'' :=
  h.grown hg h.size (fun k hk => by injection hk with hk; omega)
theorem VRow.grown {w w' : World} {b : Nat} {T : TypeId} {xs : List Value} {row : Option Nat} (h : VRow w b T xs) (hg : w.grownBy w' row) (hne : some b ≠ row) : VRow w' b T xs := by
  have hl := VRow.lt h
  unfold VRow at *; rw [hg.block b hl hne]; exact h
theorem IRow.grown {w w' : World} {b : Nat} {T : TypeId} {kd : IntKind} {xs : List Int} {row : Option Nat} (h : IRow w b T kd xs) (hg : w.grownBy w' row) (hne : some b ≠ row) : IRow w' b T kd xs := VRow.grown h hg hne
end Go.Proofs.MyK
