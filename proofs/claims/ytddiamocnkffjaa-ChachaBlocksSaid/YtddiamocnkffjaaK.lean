/-
  General lemmas for walks, over any program: a drawn region whose operations read first and then go on in one forced order; rows of cells in blocks of the call's own.
-/
import Derived.WalkKit
import Derived.WalkSpells
import Derived.WalkLawsBesides
import Derived.StillTailTactics
import Derived.KernelRfl
import Derived.Lib.Hide
namespace Go.Proofs.MyK
open Go.RowKit

theorem wp_region_td {P : Program} {id : Nat} {Q : Exit → Act → World → Prop} {a : Act} {w : World} {l : List Oper} (n : Nat) (hm : P.follows .mixedOrders = true) (hB : Region.lexTailB .any l.toArray n = true)
    (h : wpStill P l.toArray w.drew (fun a' => wpList P l.toArray Q (l.drop n) a' w.drew) (l.take n) a) : (Code.region id l.toArray true).wp P Q a w :=
  wp_region_still_tail n hm hB h

/-- A row of cells: block b holds just these values, of type T, none frozen. -/
def VRow (w : World) (b : Nat) (T : TypeId) (xs : List Value) : Prop := w.heap[b]? = some (.cells xs.toArray T (0, 0))
/-- A row of integers of one kind. -/
def IRow (w : World) (b : Nat) (T : TypeId) (kd : IntKind) (xs : List Int) : Prop := VRow w b T (xs.map (Value.int kd))

theorem VRow.new {w : World} {b : Nat} {T : TypeId} {xs : List Value} (hb : b = w.heap.size) : VRow (w.alloc (.cells xs.toArray T)) b T xs := by
  subst hb; exact heap_alloc_new w _
theorem VRow.lt {w : World} {b : Nat} {T : TypeId} {xs : List Value} (h : VRow w b T xs) : b < w.heap.size := (Array.getElem?_eq_some_iff.1 h).1
theorem VRow.alloc {w : World} {b : Nat} {T : TypeId} {xs : List Value} (h : VRow w b T xs) (o : Obj) : VRow (w.alloc o) b T xs := by
  unfold VRow; rw [Below.heap_alloc w o b h.lt]; exact h
theorem VRow.drew {w : World} {b : Nat} {T : TypeId} {xs : List Value} (h : VRow w b T xs) : VRow w.drew b T xs := h
theorem VRow.of_drew {w : World} {b : Nat} {T : TypeId} {xs : List Value} (h : VRow w.drew b T xs) : VRow w b T xs := h
theorem VRow.below {w w' : World} {b B : Nat} {T : TypeId} {xs : List Value} (h : VRow w b T xs) (hb : Below B w w') (hlt : b < B) : VRow w' b T xs := by
  unfold VRow; rw [hb.block b hlt]; exact h
theorem VRow.belowS {w w' : World} {b : Nat} {T : TypeId} {xs : List Value} (h : VRow w b T xs) (hb : Below w.heap.size w w') : VRow w' b T xs := h.below hb h.lt
theorem VRow.set {w : World} {b : Nat} {T : TypeId} {xs : List Value} (h : VRow w b T xs) (k : Nat) (v : Value) : VRow (w.setCell ⟨b, k, none⟩ v) b T (xs.set k v) := by
  unfold VRow; rw [heap_setCell_same w b k xs.toArray T v h]; simp
theorem VRow.setO {w : World} {b : Nat} {T : TypeId} {xs : List Value} (h : VRow w b T xs) {p : Addr} (hp : b ≠ p.block) (v : Value) : VRow (w.setCell p v) b T xs := by
  unfold VRow; rw [heap_setCell_other w p b v hp]; exact h
theorem VRow.cell {w : World} {b : Nat} {T : TypeId} {xs : List Value} (h : VRow w b T xs) {k : Nat} {v : Value} (hk : xs[k]? = some v) : w.cell? ⟨b, k, none⟩ = some v := by
  rw [cell_of_row w b k _ T _ h]; simpa using hk
theorem VRow.frozen {w : World} {b : Nat} {T : TypeId} {xs : List Value} (h : VRow w b T xs) (k : Nat) : w.frozen? ⟨b, k, none⟩ = false := frozen_of_row w b k _ T h

theorem VRow.setRow {w : World} {g : Nat} {T : TypeId} {xs : List Value} (h : VRow w g T xs) (ys : List Value) : VRow (w.setRow g ys.toArray) g T ys := setRow_heap w g _ _ T _ h
theorem VRow.setRowO {w : World} {b g : Nat} {T : TypeId} {xs : List Value} (h : VRow w b T xs) (hne : b ≠ g) (ys : Array Value) : VRow (w.setRow g ys) b T xs := by
  unfold VRow; rw [setRow_other w g b ys hne]; exact h
theorem IRow.setRow {w : World} {g : Nat} {T : TypeId} {kd : IntKind} {xs : List Value} (h : VRow w g T xs) (ys : List Int) : IRow (w.setRow g (ys.map (Value.int kd)).toArray) g T kd ys := VRow.setRow h _
theorem IRow.setRowO {w : World} {b g : Nat} {T : TypeId} {kd : IntKind} {xs : List Int} (h : IRow w b T kd xs) (hne : b ≠ g) (ys : Array Value) : IRow (w.setRow g ys) b T kd xs := VRow.setRowO h hne ys
theorem bel_setRow {w W : World} (h : Below w.heap.size w W) {g : Nat} (hg : w.heap.size ≤ g) (ys : Array Value) : Below w.heap.size w (W.setRow g ys) :=
  h.trans ⟨rfl, rfl, rfl, by simp, fun k hk => setRow_other W g k ys (by omega)⟩

theorem IRow.new {w : World} {b : Nat} {T : TypeId} {kd : IntKind} {xs : List Int} (hb : b = w.heap.size) : IRow (w.alloc (.cells (xs.map (Value.int kd)).toArray T)) b T kd xs := VRow.new hb
theorem IRow.new' {w : World} {b : Nat} {T : TypeId} {kd : IntKind} {xs : List Int} {arr : Array Value} (hb : b = w.heap.size) (ha : arr = (xs.map (Value.int kd)).toArray) : IRow (w.alloc (.cells arr T)) b T kd xs := by
  subst ha; exact IRow.new hb
theorem VRow.new' {w : World} {b : Nat} {T : TypeId} {xs : List Value} {arr : Array Value} (hb : b = w.heap.size) (ha : arr = xs.toArray) : VRow (w.alloc (.cells arr T)) b T xs := by
  subst ha; exact VRow.new hb
theorem IRow.lt {w : World} {b : Nat} {T : TypeId} {kd : IntKind} {xs : List Int} (h : IRow w b T kd xs) : b < w.heap.size := VRow.lt h
theorem IRow.alloc {w : World} {b : Nat} {T : TypeId} {kd : IntKind} {xs : List Int} (h : IRow w b T kd xs) (o : Obj) : IRow (w.alloc o) b T kd xs := VRow.alloc h o
theorem IRow.drew {w : World} {b : Nat} {T : TypeId} {kd : IntKind} {xs : List Int} (h : IRow w b T kd xs) : IRow w.drew b T kd xs := h
theorem IRow.below {w w' : World} {b B : Nat} {T : TypeId} {kd : IntKind} {xs : List Int} (h : IRow w b T kd xs) (hb : Below B w w') (hlt : b < B) : IRow w' b T kd xs := VRow.below h hb hlt
theorem IRow.belowS {w w' : World} {b : Nat} {T : TypeId} {kd : IntKind} {xs : List Int} (h : IRow w b T kd xs) (hb : Below w.heap.size w w') : IRow w' b T kd xs := VRow.belowS h hb
theorem IRow.set {w : World} {b : Nat} {T : TypeId} {kd : IntKind} {xs : List Int} (h : IRow w b T kd xs) (k : Nat) (v : Int) : IRow (w.setCell ⟨b, k, none⟩ (.int kd v)) b T kd (xs.set k v) := by
  have := VRow.set h k (.int kd v)
  unfold IRow; rw [List.map_set]; exact this
theorem IRow.setO {w : World} {b : Nat} {T : TypeId} {kd : IntKind} {xs : List Int} (h : IRow w b T kd xs) {p : Addr} (hp : b ≠ p.block) (v : Value) : IRow (w.setCell p v) b T kd xs := VRow.setO h hp v
theorem IRow.cell {w : World} {b : Nat} {T : TypeId} {kd : IntKind} {xs : List Int} (h : IRow w b T kd xs) {k : Nat} (hk : k < xs.length) : w.cell? ⟨b, k, none⟩ = some (.int kd (xs.getD k 0)) :=
  VRow.cell h (by simp [List.getD, hk])
theorem IRow.frozen {w : World} {b : Nat} {T : TypeId} {kd : IntKind} {xs : List Int} (h : IRow w b T kd xs) (k : Nat) : w.frozen? ⟨b, k, none⟩ = false := VRow.frozen h k

/-- What a call has left as it was, in the two forms that the walk uses. -/
theorem bcell {W w1 : World} (hb : Below W.heap.size W w1) : (∀ b o, b < W.heap.size → w1.cell? ⟨b, o, none⟩ = W.cell? ⟨b, o, none⟩) ∧ (∀ b o, b < W.heap.size → w1.frozen? ⟨b, o, none⟩ = W.frozen? ⟨b, o, none⟩) :=
  ⟨fun b o h => hb.cell (p := ⟨b, o, none⟩) h, fun b o h => hb.frozen (p := ⟨b, o, none⟩) h⟩
theorem bel_alloc {w W : World} (h : Below w.heap.size w W) (o : Obj) : Below w.heap.size w (W.alloc o) := h.alloc h.size o
theorem bel_drew {w W : World} (h : Below w.heap.size w W) : Below w.heap.size w W.drew := h.drew
theorem bel_set {w W : World} (h : Below w.heap.size w W) {p : Addr} (hp : w.heap.size ≤ p.block) (u : Value) : Below w.heap.size w (W.setCell p u) := h.setCell hp u
theorem below_S {w W w' : World} (h : Below w.heap.size w W) (h' : Below W.heap.size W w') : Below w.heap.size w w' := h.trans (h'.mono h.size)

end Go.Proofs.MyK
