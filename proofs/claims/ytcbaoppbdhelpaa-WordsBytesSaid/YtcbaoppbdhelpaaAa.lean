import Derived.Test.YtcbaoppbdhelpaaZ
import Derived.Test.YtcbaoppbdhelpaaG
import Derived.Test.YtcbaoppbdhelpaaR3
import Derived.Laws.BytesArg
import Derived.Laws.OwnMore
import Derived.Deep.AppendLies
namespace Go.Proofs.Ytcbaoppbdhelpaa
open Go.RowKit Go.Proofs Go.Proofs.MyK
set_option linter.unusedSimpArgs false
set_option linter.unusedVariables false
/-- 32 bytes lie in block g, from cell off on. -/
structure By32 (w : World) (g off : Nat) (z : Nat → Int) : Prop where
  lt : g < w.heap.size
  cell : ∀ k, k < 32 → w.cell? ⟨g, off + k, none⟩ = some (.int .u8 (z k))
theorem By32.belowS {w w' : World} {g off : Nat} {z : Nat → Int} (h : By32 w g off z) (hb : Below w.heap.size w w') : By32 w' g off z :=
  ⟨by have := h.lt; have := hb.size; omega, fun k hk => (hb.cell (by exact h.lt)).trans (h.cell k hk)⟩
theorem By32.alloc {w : World} {g off : Nat} {z : Nat → Int} (h : By32 w g off z) (o : Obj) : By32 (w.alloc o) g off z := h.belowS (bel_alloc (Below.refl _ _) o)
theorem By32.drew {w : World} {g off : Nat} {z : Nat → Int} (h : By32 w g off z) : By32 w.drew g off z := h.belowS (bel_drew (Below.refl _ _))
theorem By32.ofRow {w : World} {g : Nat} {l : List Int} (h : IRow w g 37 .u8 l) (hl : l.length = 32) : By32 w g 0 (fun k => l.getD k 0) :=
  ⟨h.lt, fun k hk => by rw [Nat.zero_add]; exact h.cell (by omega)⟩
theorem By32.ofOwns {w : World} {base g cap : Nat} {l : List Int} (h : w.ownsRow base 5 1 (.slice (some ⟨g, 0, none⟩) 32 cap) 32 (l.map (Value.int .u8))) (hl : l.length = 32) : By32 w g 0 (fun k => l.getD k 0) := by
  refine ⟨(h.lt g rfl).2, fun k hk => ?_⟩
  rw [Nat.zero_add, h.cellAt k (by omega)]
  simp [List.getD_eq_getElem?_getD, hl, hk]
theorem owns_form {w : World} {base : Nat} {v : Value} {l : List Int} (h : w.ownsRow base 5 1 v 32 (l.map (Value.int .u8))) (hl : l.length = 32) : ∃ g cap, v = .slice (some ⟨g, 0, none⟩) 32 cap ∧ 32 ≤ cap ∧ cap ≤ 9223372036854775807 ∧ By32 w g 0 (fun k => l.getD k 0) := by
  have h' := h
  rcases h.2 with ⟨_, h0⟩ | ⟨g, cap, cur, rfl, _, _, h1, h2, _⟩
  · cases h0
  · exact ⟨g, cap, rfl, h1, by unfold maxLen at h2; omega, By32.ofOwns h' hl⟩
/-- The number of 32 bytes. -/
def bigN (z : Nat → Int) : List Value := [.int .u64 (z 31 + z 30 * 256 + z 29 * 65536 + z 28 * 16777216 + z 27 * 4294967296 + z 26 * 1099511627776 + z 25 * 281474976710656 + z 24 * 72057594037927936), .int .u64 (z 23 + z 22 * 256 + z 21 * 65536 + z 20 * 16777216 + z 19 * 4294967296 + z 18 * 1099511627776 + z 17 * 281474976710656 + z 16 * 72057594037927936), .int .u64 (z 15 + z 14 * 256 + z 13 * 65536 + z 12 * 16777216 + z 11 * 4294967296 + z 10 * 1099511627776 + z 9 * 281474976710656 + z 8 * 72057594037927936), .int .u64 (z 7 + z 6 * 256 + z 5 * 65536 + z 4 * 16777216 + z 3 * 4294967296 + z 2 * 1099511627776 + z 1 * 281474976710656 + z 0 * 72057594037927936)]
def litN (z : Nat → Int) : List Value := [.int .u64 (z 0 + z 1 * 256 + z 2 * 65536 + z 3 * 16777216 + z 4 * 4294967296 + z 5 * 1099511627776 + z 6 * 281474976710656 + z 7 * 72057594037927936), .int .u64 (z 8 + z 9 * 256 + z 10 * 65536 + z 11 * 16777216 + z 12 * 4294967296 + z 13 * 1099511627776 + z 14 * 281474976710656 + z 15 * 72057594037927936), .int .u64 (z 16 + z 17 * 256 + z 18 * 65536 + z 19 * 16777216 + z 20 * 4294967296 + z 21 * 1099511627776 + z 22 * 281474976710656 + z 23 * 72057594037927936), .int .u64 (z 24 + z 25 * 256 + z 26 * 65536 + z 27 * 16777216 + z 28 * 4294967296 + z 29 * 1099511627776 + z 30 * 281474976710656 + z 31 * 72057594037927936)]
theorem big_by (g off cap : Nat) (z : Nat → Int) (hcap : 32 ≤ cap) (hcap' : cap ≤ 9223372036854775807) (hb : ∀ k, 0 ≤ z k ∧ z k < 256) (w : World) (h : By32 w g off z) :
    Calls Try.prog 21 #[.slice (some ⟨g, off, none⟩) 32 cap] w fun e w' => e = .returned (.tuple #[.agg (bigN z).toArray, .bool true]) ∧ Below w.heap.size w w' := by
  have c := big_calls g off cap z hcap hcap' w h.lt h.cell
  rw [big8_eq _ _ _ _ _ _ _ _ (hb 24) (hb 25) (hb 26) (hb 27) (hb 28) (hb 29) (hb 30) (hb 31), big8_eq _ _ _ _ _ _ _ _ (hb 16) (hb 17) (hb 18) (hb 19) (hb 20) (hb 21) (hb 22) (hb 23), big8_eq _ _ _ _ _ _ _ _ (hb 8) (hb 9) (hb 10) (hb 11) (hb 12) (hb 13) (hb 14) (hb 15), big8_eq _ _ _ _ _ _ _ _ (hb 0) (hb 1) (hb 2) (hb 3) (hb 4) (hb 5) (hb 6) (hb 7)] at c
  exact c
theorem little_by (g off cap : Nat) (z : Nat → Int) (hcap : 32 ≤ cap) (hcap' : cap ≤ 9223372036854775807) (hb : ∀ k, 0 ≤ z k ∧ z k < 256) (w : World) (h : By32 w g off z) :
    Calls Try.prog 22 #[.slice (some ⟨g, off, none⟩) 32 cap] w fun e w' => e = .returned (.tuple #[.agg (litN z).toArray, .bool true]) ∧ Below w.heap.size w w' := by
  have c := little_calls g off cap z hcap hcap' w h.lt h.cell
  rw [lit8_eq _ _ _ _ _ _ _ _ (hb 0) (hb 1) (hb 2) (hb 3) (hb 4) (hb 5) (hb 6) (hb 7), lit8_eq _ _ _ _ _ _ _ _ (hb 8) (hb 9) (hb 10) (hb 11) (hb 12) (hb 13) (hb 14) (hb 15), lit8_eq _ _ _ _ _ _ _ _ (hb 16) (hb 17) (hb 18) (hb 19) (hb 20) (hb 21) (hb 22) (hb 23), lit8_eq _ _ _ _ _ _ _ _ (hb 24) (hb 25) (hb 26) (hb 27) (hb 28) (hb 29) (hb 30) (hb 31)] at c
  exact c
theorem rbig_by (g off cap : Nat) (z : Nat → Int) (hcap : 32 ≤ cap) (hcap' : cap ≤ 9223372036854775807) (hb : ∀ k, 0 ≤ z k ∧ z k < 256) (w : World) (h : By32 w g off z) :
    Calls Try.prog 24 #[.slice (some ⟨g, off, none⟩) 32 cap] w fun e w' => e = .returned (.agg (bigN z).toArray) ∧ Below w.heap.size w w' := by
  have c := rbig_calls g off cap z hcap hcap' hb w h.lt h.cell
  rw [show (z 31 + 256 * z 30) + (z 29 + 256 * z 28) * 65536 + (z 27 + 256 * z 26) * 4294967296 + (z 25 + 256 * z 24) * 281474976710656 = z 31 + z 30 * 256 + z 29 * 65536 + z 28 * 16777216 + z 27 * 4294967296 + z 26 * 1099511627776 + z 25 * 281474976710656 + z 24 * 72057594037927936 by omega, show (z 23 + 256 * z 22) + (z 21 + 256 * z 20) * 65536 + (z 19 + 256 * z 18) * 4294967296 + (z 17 + 256 * z 16) * 281474976710656 = z 23 + z 22 * 256 + z 21 * 65536 + z 20 * 16777216 + z 19 * 4294967296 + z 18 * 1099511627776 + z 17 * 281474976710656 + z 16 * 72057594037927936 by omega, show (z 15 + 256 * z 14) + (z 13 + 256 * z 12) * 65536 + (z 11 + 256 * z 10) * 4294967296 + (z 9 + 256 * z 8) * 281474976710656 = z 15 + z 14 * 256 + z 13 * 65536 + z 12 * 16777216 + z 11 * 4294967296 + z 10 * 1099511627776 + z 9 * 281474976710656 + z 8 * 72057594037927936 by omega, show (z 7 + 256 * z 6) + (z 5 + 256 * z 4) * 65536 + (z 3 + 256 * z 2) * 4294967296 + (z 1 + 256 * z 0) * 281474976710656 = z 7 + z 6 * 256 + z 5 * 65536 + z 4 * 16777216 + z 3 * 4294967296 + z 2 * 1099511627776 + z 1 * 281474976710656 + z 0 * 72057594037927936 by omega] at c
  exact c
/-- What is turned is the lowest first. -/
theorem lit_turn (z : Nat → Int) : bigN (fun k => (rt z 32).getD k 0) = litN z := by kernel_rfl
theorem turn_by (g off cap : Nat) (z : Nat → Int) (hcap : 32 ≤ cap) (hcap' : cap ≤ 9223372036854775807) (w : World) (h : By32 w g off z) :
    Calls Try.prog 23 #[.slice (some ⟨g, off, none⟩) 32 cap] w fun e w' => (∃ g' cap', e = .returned (.slice (some ⟨g', 0, none⟩) 32 cap') ∧ 32 ≤ cap' ∧ cap' ≤ 9223372036854775807 ∧ By32 w' g' 0 (fun k => (rt z 32).getD k 0)) ∧ Below w.heap.size w w' := by
  refine (turn_calls g off cap z hcap hcap' w h.lt h.cell).mono ?_
  rintro e w' ⟨⟨v, rfl, ho⟩, hb⟩
  obtain ⟨g', cap', rfl, h1, h2, h3⟩ := owns_form ho (rt_len z 32)
  exact ⟨⟨g', cap', rfl, h1, h2, h3⟩, hb⟩
theorem rbytes_by (a0 a1 a2 a3 : Int) (ha0 : Wd a0) (ha1 : Wd a1) (ha2 : Wd a2) (ha3 : Wd a3) (w : World) :
    Calls Try.prog 20 #[.agg #[.int .u64 a0, .int .u64 a1, .int .u64 a2, .int .u64 a3]] w fun e w' => (∃ g' cap', e = .returned (.slice (some ⟨g', 0, none⟩) 32 cap') ∧ 32 ≤ cap' ∧ cap' ≤ 9223372036854775807 ∧ By32 w' g' 0 (fun k => (bl a0 a1 a2 a3).getD k 0)) ∧ Below w.heap.size w w' := by
  refine (rbytes_calls a0 a1 a2 a3 ha0.1 ha1.1 ha2.1 ha3.1 w).mono ?_
  rintro e w' ⟨⟨v, rfl, ho⟩, hb⟩
  rw [rb_bl] at ho
  obtain ⟨g', cap', rfl, h1, h2, h3⟩ := owns_form ho rfl
  exact ⟨⟨g', cap', rfl, h1, h2, h3⟩, hb⟩
theorem bytes_by (a0 a1 a2 a3 : Int) (ha0 : Wd a0) (ha1 : Wd a1) (ha2 : Wd a2) (ha3 : Wd a3) (w : World) :
    Calls Try.prog 18 #[.agg #[.int .u64 a0, .int .u64 a1, .int .u64 a2, .int .u64 a3]] w fun e w' => e = .returned (.agg ((bl a0 a1 a2 a3).map (Value.int .u8)).toArray) ∧ Below w.heap.size w w' := by
  rw [← fillB_bl]; exact bytes_calls a0 a1 a2 a3 ha0.1 ha1.1 ha2.1 ha3.1 w
theorem turned_by (a0 a1 a2 a3 : Int) (ha0 : Wd a0) (ha1 : Wd a1) (ha2 : Wd a2) (ha3 : Wd a3) (w : World) :
    Calls Try.prog 19 #[.agg #[.int .u64 a0, .int .u64 a1, .int .u64 a2, .int .u64 a3]] w fun e w' => e = .returned (.agg ((tl a0 a1 a2 a3).map (Value.int .u8)).toArray) ∧ Below w.heap.size w w' := by
  rw [← fillT_tl]; exact turned_calls a0 a1 a2 a3 ha0.1 ha1.1 ha2.1 ha3.1 w
theorem bl_bd (a0 a1 a2 a3 : Int) (k : Nat) : 0 ≤ (bl a0 a1 a2 a3).getD k 0 ∧ (bl a0 a1 a2 a3).getD k 0 < 256 := by
  have h : ∀ x ∈ bl a0 a1 a2 a3, 0 ≤ x ∧ x < 256 := by intro x hx; simp only [bl, List.mem_cons, List.not_mem_nil, or_false] at hx; rcases hx with rfl | rfl | rfl | rfl | rfl | rfl | rfl | rfl | rfl | rfl | rfl | rfl | rfl | rfl | rfl | rfl | rfl | rfl | rfl | rfl | rfl | rfl | rfl | rfl | rfl | rfl | rfl | rfl | rfl | rfl | rfl | rfl <;> exact byt_bd _ _
  rw [List.getD_eq_getElem?_getD]
  cases hg : (bl a0 a1 a2 a3)[k]? with
  | none => simp
  | some x => exact h x (List.mem_of_getElem? hg)
theorem tl_bd (a0 a1 a2 a3 : Int) (k : Nat) : 0 ≤ (tl a0 a1 a2 a3).getD k 0 ∧ (tl a0 a1 a2 a3).getD k 0 < 256 := by
  have h : ∀ x ∈ tl a0 a1 a2 a3, 0 ≤ x ∧ x < 256 := by intro x hx; simp only [tl, List.mem_cons, List.not_mem_nil, or_false] at hx; rcases hx with rfl | rfl | rfl | rfl | rfl | rfl | rfl | rfl | rfl | rfl | rfl | rfl | rfl | rfl | rfl | rfl | rfl | rfl | rfl | rfl | rfl | rfl | rfl | rfl | rfl | rfl | rfl | rfl | rfl | rfl | rfl | rfl <;> exact byt_bd _ _
  rw [List.getD_eq_getElem?_getD]
  cases hg : (tl a0 a1 a2 a3)[k]? with
  | none => simp
  | some x => exact h x (List.mem_of_getElem? hg)
set_option maxRecDepth 20000 in
theorem bigN_bl0 (a0 a1 a2 a3 : Int) : bigN (fun k => (bl a0 a1 a2 a3).getD k 0) = [.int .u64 (byt 0 a0 + byt 1 a0 * 256 + byt 2 a0 * 65536 + byt 3 a0 * 16777216 + byt 4 a0 * 4294967296 + byt 5 a0 * 1099511627776 + byt 6 a0 * 281474976710656 + byt 7 a0 * 72057594037927936), .int .u64 (byt 0 a1 + byt 1 a1 * 256 + byt 2 a1 * 65536 + byt 3 a1 * 16777216 + byt 4 a1 * 4294967296 + byt 5 a1 * 1099511627776 + byt 6 a1 * 281474976710656 + byt 7 a1 * 72057594037927936), .int .u64 (byt 0 a2 + byt 1 a2 * 256 + byt 2 a2 * 65536 + byt 3 a2 * 16777216 + byt 4 a2 * 4294967296 + byt 5 a2 * 1099511627776 + byt 6 a2 * 281474976710656 + byt 7 a2 * 72057594037927936), .int .u64 (byt 0 a3 + byt 1 a3 * 256 + byt 2 a3 * 65536 + byt 3 a3 * 16777216 + byt 4 a3 * 4294967296 + byt 5 a3 * 1099511627776 + byt 6 a3 * 281474976710656 + byt 7 a3 * 72057594037927936)] := by kernel_rfl
set_option maxRecDepth 20000 in
theorem litN_tl0 (a0 a1 a2 a3 : Int) : litN (fun k => (tl a0 a1 a2 a3).getD k 0) = [.int .u64 (byt 0 a0 + byt 1 a0 * 256 + byt 2 a0 * 65536 + byt 3 a0 * 16777216 + byt 4 a0 * 4294967296 + byt 5 a0 * 1099511627776 + byt 6 a0 * 281474976710656 + byt 7 a0 * 72057594037927936), .int .u64 (byt 0 a1 + byt 1 a1 * 256 + byt 2 a1 * 65536 + byt 3 a1 * 16777216 + byt 4 a1 * 4294967296 + byt 5 a1 * 1099511627776 + byt 6 a1 * 281474976710656 + byt 7 a1 * 72057594037927936), .int .u64 (byt 0 a2 + byt 1 a2 * 256 + byt 2 a2 * 65536 + byt 3 a2 * 16777216 + byt 4 a2 * 4294967296 + byt 5 a2 * 1099511627776 + byt 6 a2 * 281474976710656 + byt 7 a2 * 72057594037927936), .int .u64 (byt 0 a3 + byt 1 a3 * 256 + byt 2 a3 * 65536 + byt 3 a3 * 16777216 + byt 4 a3 * 4294967296 + byt 5 a3 * 1099511627776 + byt 6 a3 * 281474976710656 + byt 7 a3 * 72057594037927936)] := by kernel_rfl
theorem bigN_bl (a0 a1 a2 a3 : Int) (ha0 : Wd a0) (ha1 : Wd a1) (ha2 : Wd a2) (ha3 : Wd a3) : bigN (fun k => (bl a0 a1 a2 a3).getD k 0) = [.int .u64 a0, .int .u64 a1, .int .u64 a2, .int .u64 a3] := by
  rw [bigN_bl0]
  have e : ∀ a, Wd a → byt 0 a + byt 1 a * 256 + byt 2 a * 65536 + byt 3 a * 16777216 + byt 4 a * 4294967296 + byt 5 a * 1099511627776 + byt 6 a * 281474976710656 + byt 7 a * 72057594037927936 = a := fun a ha => by have := byt_sum a ha; omega
  rw [e a0 ha0, e a1 ha1, e a2 ha2, e a3 ha3]
theorem litN_tl (a0 a1 a2 a3 : Int) (ha0 : Wd a0) (ha1 : Wd a1) (ha2 : Wd a2) (ha3 : Wd a3) : litN (fun k => (tl a0 a1 a2 a3).getD k 0) = [.int .u64 a0, .int .u64 a1, .int .u64 a2, .int .u64 a3] := by
  rw [litN_tl0]
  rw [byt_sum a0 ha0, byt_sum a1 ha1, byt_sum a2 ha2, byt_sum a3 ha3]

theorem run_conv {a : Act} {o : Oper} {w : World} (x : Operand) (ho : o.op = .convert 36 9 x) {g off cap : Nat} {z : Nat → Int} (hx : a.eval x = .slice (some ⟨g, off, none⟩) 32 cap) (xs : List Int) (hl : xs.length = 32) (hz : ∀ k, k < 32 → z k = xs.getD k 0) (h : By32 w g off z) :
    (execOp a.eval o).run Try.prog w = .ok (.value (.string (strOfNums xs))) w := by
  have c := run_convert_bytes_arg (P := Try.prog) w 36 5 Try.underlying36 Try.underlying5 g off 32 cap xs hl (fun i hi => (h.cell i hi).trans (by rw [hz i hi])) 9 Try.underlying9
  unfold execOp
  simp only [ho, hx, Sem.run_bind, c, Result.andThen_ok, Sem.run_pure]
section
variable {P : Program} {ops : Array Oper} {Q : Exit → Act → World → Prop} {w0 w : World} {K : Act → World → Prop} {a : Act} {o : Oper} {r : List (Cl × Oper)}
theorem seqC_h_run {v : Value} (hw : Region.wanted o (yielded ops a.tmps) = true) (hr : (execOp a.eval o).run P w0 = .ok (.value v) w0) (h : seqC P ops Q w0 K r (a.put o.dst v) w) : seqC P ops Q w0 K ((.h, o) :: r) a w :=
  ⟨_, .inl ⟨hw, .inl hr⟩, h⟩
theorem seqC_b_run {v : Value} (hb : Below w0.heap.size w0 w) (hw : Region.wanted o (yielded ops a.tmps) = true) (hr : (execOp a.eval o).run P w = .ok (.value v) w) (h : seqC P ops Q w0 K r (a.put o.dst v) w) : seqC P ops Q w0 K ((.b, o) :: r) a w := by
  refine seqC_b (fun K' hK => ?_)
  rw [if_pos hw]; unfold Oper.wp; rw [hr, Oper.upon_value]
  exact hK _ _ hb h
end
end Go.Proofs.Ytcbaoppbdhelpaa
