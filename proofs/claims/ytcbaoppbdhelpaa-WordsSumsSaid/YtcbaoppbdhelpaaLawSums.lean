/- WordsSums: of any two numbers the sum, the difference, what goes beyond each and which is less are the document's, digit by digit of 16 bits; nothing that was there is written. No condition. -/
import Derived.Test.YtcbaoppbdhelpaaX
import Derived.Test.YtcbaoppbdhelpaaO
namespace Go.Proofs.Ytcbaoppbdhelpaa
open Go.RowKit Go.Proofs Go.Proofs.MyK
set_option linter.unusedVariables false
set_option linter.unusedSimpArgs false
theorem sums_any (a0 a1 a2 a3 b0 b1 b2 b3 : Int) (ha0 : Wd a0) (ha1 : Wd a1) (ha2 : Wd a2) (ha3 : Wd a3) (hb0 : Wd b0) (hb1 : Wd b1) (hb2 : Wd b2) (hb3 : Wd b3) (w : World) :
    Calls Try.prog 5 #[.agg #[.int .u64 a0, .int .u64 a1, .int .u64 a2, .int .u64 a3], .agg #[.int .u64 b0, .int .u64 b1, .int .u64 b2, .int .u64 b3]] w fun e w' => e = .returned (.bool true) ∧ Below w.heap.size w w' := by
  have hl : lessB a0 a1 a2 a3 b0 b1 b2 b3 = if N a0 a1 a2 a3 < N b0 b1 b2 b3 then 1 else 0 := less_iff a0 a1 a2 a3 b0 b1 b2 b3 ha0 ha1 ha2 ha3 hb0 hb1 hb2 hb3
  have hd : decide (N a0 a1 a2 a3 < N b0 b1 b2 b3) = true ∧ lessB a0 a1 a2 a3 b0 b1 b2 b3 = 1 ∨ decide (N a0 a1 a2 a3 < N b0 b1 b2 b3) = false ∧ lessB a0 a1 a2 a3 b0 b1 b2 b3 = 0 := by
    rw [hl]; by_cases h : N a0 a1 a2 a3 < N b0 b1 b2 b3 <;> simp [h]
  exact sums_core a0 a1 a2 a3 b0 b1 b2 b3 _ _ _ _ _ _ _ _ _ _ _ hd
    (Lib.hid (fun w => add_calls a0 a1 a2 a3 b0 b1 b2 b3 ha0 ha1 ha2 ha3 hb0 hb1 hb2 hb3 w)) (Lib.hid (fun w => radd_calls a0 a1 a2 a3 b0 b1 b2 b3 ha0 ha1 ha2 ha3 hb0 hb1 hb2 hb3 w))
    (Lib.hid (fun w => sub_calls a0 a1 a2 a3 b0 b1 b2 b3 ha0 ha1 ha2 ha3 hb0 hb1 hb2 hb3 w)) (Lib.hid (fun w => rsub_calls a0 a1 a2 a3 b0 b1 b2 b3 ha0 ha1 ha2 ha3 hb0 hb1 hb2 hb3 w))
    (Lib.hid (fun w => less_v a0 a1 a2 a3 b0 b1 b2 b3 _ ha0 ha1 ha2 ha3 hb0 hb1 hb2 hb3 rfl w)) (Lib.hid (fun w => rless_v a0 a1 a2 a3 b0 b1 b2 b3 _ ha0 ha1 ha2 ha3 hb0 hb1 hb2 hb3 rfl w)) w
namespace wordsSums
open Go.ChangeShapes Go.WideShapes Go.ChangeAt Go.RowKit
set_option maxRecDepth 100000 in
theorem lifted (os : Os) (started : os.Started) (H : Type) (enc : TypeId × Value → H) :
    ReturnsInHanded {} Try.checked os 5 .any (Rows.wordsSumsSpec.pre6 enc Try.prog Try.f5 Rows.wordsSumsRow.domain false) (Rows.wordsSumsSpec.post enc Try.prog Try.f5 false true false false) := by
  refine returnsInHanded_of_change (C := Try.checked) rowOwn started (by kernel_rfl) Try.func5
    (ChangeSpec.witness6 (enc := enc) (C := Try.checked) false ⟨#[], #[.agg #[.int .u64 0, .int .u64 0, .int .u64 0, .int .u64 0], .agg #[.int .u64 0, .int .u64 0, .int .u64 0, .int .u64 0]], []⟩ 8 (by kernel_rfl) (by kernel_rfl) (by kernel_rfl) (by kernel_rfl)) ?_
  intro W base args ds gs before hval0 hW hcnd _
  have hval : ∀ (j : Nat) t v, Try.f5.params[j]? = some t → args[j]? = some v → Value.okWide Try.prog W .any base t v := hval0
  have hW' := hW
  obtain ⟨p, q, hA0, hV, rfl, hfz, hnd⟩ := hW
  have hA : DataW.TrodAll enc Try.prog W 0 (fun _ => true) true Try.f5.params.toList args.toList ds p := hA0
  rw [Try.params5] at hA hval
  obtain ⟨v0, vs0, d0, ds0, p0, q0, hargs, rfl, rfl, h0, r0⟩ := trodAll_cons hA
  obtain ⟨v1, vs1, d1, ds1, p1, q1, rfl, rfl, rfl, h1, r1⟩ := trodAll_cons r0
  obtain ⟨rfl, rfl, rfl⟩ := trodAll_nil r1
  obtain rfl : args = #[v0, v1] := by cases args; simp_all
  obtain ⟨rfl, rfl⟩ := trodVars_none hV
  have k0 := h0
  have lt0 : ∀ x ∈ p0, x.block < W.heap.size := by obtain ⟨m, hm⟩ := k0; exact DataW.trod_lt m _ _ _ hm
  have ok0 := hval 0 24 v0 rfl rfl
  have k1 := h1
  have lt1 : ∀ x ∈ p1, x.block < W.heap.size := by obtain ⟨m, hm⟩ := k1; exact DataW.trod_lt m _ _ _ hm
  have ok1 := hval 1 24 v1 rfl rfl
  obtain ⟨a0, a1, a2, a3, rfl, ha0, ha1, ha2, ha3⟩ := num_open ok0 k0
  obtain ⟨b0, b1, b2, b3, rfl, hb0, hb1, hb2, hb3⟩ := num_open ok1 k1
  clear hA0 hval0
  refine (sums_any a0 a1 a2 a3 b0 b1 b2 b3 ha0 ha1 ha2 ha3 hb0 hb1 hb2 hb3 W).mono fun e W' ⟨he, bel⟩ => ?_
  subst he
  exact ⟨_, rfl, _, _, _, [], _, [], hW', trodAll_mk1 (shut_bool Try.underlying4 _), (trodAll_cons_mk (Below.trod rowLaid (by kernel_rfl) (of_decide_eq_true (by kernel_rfl)) k0 bel lt0) (trodAll_cons_mk (Below.trod rowLaid (by kernel_rfl) (of_decide_eq_true (by kernel_rfl)) k1 bel lt1) trodAll_mk0)), rfl, bel.frame _, fun h => by cases h⟩
theorem over : Rows.wordsSumsRow.holds Try.pinned (OpenSpec.ofChange Rows.wordsSumsSpec) :=
  OpenClaim.holds_of_wide 5 Try.f5 rfl rfl rfl rfl rfl rfl rfl ⟨rfl, rfl, rfl, rfl, rfl⟩ rfl rfl rfl rfl rfl (by kernel_rfl) Try.func5 (by kernel_rfl)
    (of_decide_eq_true (by kernel_rfl)) (by unfold Func.isWrapper; first | (rw [if_pos (by decide +kernel)]; kernel_rfl) | (rw [if_neg (by decide +kernel)]; exact ⟨rfl, rfl⟩))
    (fun os started H enc _ => lifted os started H enc)
theorem proved : Rows.WordsSumsSaid := over
end wordsSums
#print axioms wordsSums.proved
end Go.Proofs.Ytcbaoppbdhelpaa
