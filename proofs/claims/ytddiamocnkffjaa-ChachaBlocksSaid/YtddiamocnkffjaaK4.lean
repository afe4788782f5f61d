/-
  Bytes that lie in memory, and what a call that writes elsewhere leaves of them.
-/
import Derived.Test.YtddiamocnkffjaaK3
namespace Go.Proofs.MyK
open Go.RowKit
/-- n bytes lie in block g, from cell off on. -/
structure At (w : World) (g off n : Nat) (z : Nat → Int) : Prop where
  lt : g < w.heap.size
  cell : ∀ k, k < n → w.cell? ⟨g, off + k, none⟩ = some (.int .u8 (z k))
theorem At.belowS {w w' : World} {g off n : Nat} {z : Nat → Int} (h : At w g off n z) (hb : Below w.heap.size w w') : At w' g off n z :=
  ⟨by have := h.lt; have := hb.size; omega, fun k hk => (hb.cell (by exact h.lt)).trans (h.cell k hk)⟩
theorem At.below {w w' : World} {B g off n : Nat} {z : Nat → Int} (h : At w g off n z) (hb : Below B w w') (hg : g < B) : At w' g off n z :=
  ⟨by have := h.lt; have := hb.size; omega, fun k hk => (hb.cell (by exact hg)).trans (h.cell k hk)⟩
theorem At.alloc {w : World} {g off n : Nat} {z : Nat → Int} (h : At w g off n z) (o : Obj) : At (w.alloc o) g off n z := h.belowS (bel_alloc (Below.refl _ _) o)
theorem At.drew {w : World} {g off n : Nat} {z : Nat → Int} (h : At w g off n z) : At w.drew g off n z := h.belowS (bel_drew (Below.refl _ _))
theorem grown_cell {w w' : World} {g : Nat} {r : Option Nat} (hg : w.grownBy w' r) (hl : g < w.heap.size) (hne : some g ≠ r) (k : Nat) : w'.cell? ⟨g, k, none⟩ = w.cell? ⟨g, k, none⟩ := by
  simp only [World.cell?]; rw [hg.block g hl hne]
theorem At.grown {w w' : World} {g off n : Nat} {z : Nat → Int} {r : Option Nat} (h : At w g off n z) (hg : w.grownBy w' r) (hne : some g ≠ r) : At w' g off n z :=
  ⟨Nat.lt_of_lt_of_le h.lt hg.size, fun k hk => (grown_cell hg h.lt hne _).trans (h.cell k hk)⟩
theorem setCell_grown (w : World) (g k : Nat) (v : Value) : w.grownBy (w.setCell ⟨g, k, none⟩ v) (some g) := grown_set (grown_refl _ _) k v
theorem At.setO {w : World} {g off n : Nat} {z : Nat → Int} (h : At w g off n z) {b : Nat} (hne : g ≠ b) (k : Nat) (v : Value) : At (w.setCell ⟨b, k, none⟩ v) g off n z :=
  h.grown (setCell_grown w b k v) (by simpa using hne)
theorem At.setRowO {w : World} {g off n : Nat} {z : Nat → Int} (h : At w g off n z) {b : Nat} (hne : g ≠ b) (ys : Array Value) : At (w.setRow b ys) g off n z :=
  ⟨by have := h.lt; simpa using this, fun k hk => by rw [← h.cell k hk]; simp only [World.cell?]; rw [setRow_other w b g ys hne]⟩
theorem At.sub {w : World} {g off n : Nat} {z : Nat → Int} (h : At w g off n z) (i m : Nat) (hm : i + m ≤ n) : At w g (off + i) m (fun k => z (i + k)) :=
  ⟨h.lt, fun k hk => by rw [Nat.add_assoc]; exact h.cell (i + k) (by omega)⟩
theorem At.ofRow {w : World} {g n : Nat} {T : TypeId} {l : List Int} (h : IRow w g T .u8 l) (hl : n ≤ l.length) : At w g 0 n (fun k => l.getD k 0) :=
  ⟨h.lt, fun k hk => by rw [Nat.zero_add]; exact h.cell (by omega)⟩
theorem At.new {w : World} {n : Nat} {C : Array Value} {T : TypeId} {fr : Nat × Nat} {l : List Int} (hC : C = (l.map (Value.int .u8)).toArray) (hn : n ≤ l.length) : At (w.alloc (.cells C T fr)) w.heap.size 0 n (fun k => l.getD k 0) := by
  subst hC
  refine ⟨by simp, fun k hk => ?_⟩
  rw [cell_of_row _ _ _ _ _ _ (heap_alloc_new w _)]
  have : k < l.length := by omega
  simp [List.getD, this]
end Go.Proofs.MyK
