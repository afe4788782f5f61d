/- WordsBits: Bit returns the bits of the number, 0 beyond; Pick chooses by the lowest bit; nothing that was there is written. No condition. -/
import Derived.Test.YtcbaoppbdhelpaaBits
import Derived.Test.YtcbaoppbdhelpaaO
namespace Go.Proofs.Ytcbaoppbdhelpaa
open Go.ChangeShapes Go.WideShapes Go.ChangeAt Go.RowKit Go.Proofs Go.Proofs.MyK
set_option linter.unusedVariables false
theorem list8 {α : Type} (l : List α) (h : (⟨l⟩ : Array α).size = 8) : ∃ a b c d e f g i, l = [a, b, c, d, e, f, g, i] := by
  match l, h with
  | [a, b, c, d, e, f, g, i], _ => exact ⟨a, b, c, d, e, f, g, i, rfl⟩
theorem pair_open {H : Type} {enc : TypeId × Value → H} {W : World} {base : Nat} {sp : Nat → Bool} {held : Bool} {v : Value} {d : DataW H} {p : List MemPlace} (hv : Value.okWide Try.prog W .any base 28 v) (h : DataW.Trod enc Try.prog W 0 sp held 28 v d p) :
    ∃ a0 a1 a2 a3 b0 b1 b2 b3 : Int, v = .agg #[.int .u64 a0, .int .u64 a1, .int .u64 a2, .int .u64 a3, .int .u64 b0, .int .u64 b1, .int .u64 b2, .int .u64 b3] ∧ (Wd a0 ∧ Wd a1 ∧ Wd a2 ∧ Wd a3) ∧ Wd b0 ∧ Wd b1 ∧ Wd b2 ∧ Wd b3 := by
  obtain ⟨cs, rfl, hsz, _⟩ : ∃ cs, v = .agg cs ∧ cs.size = Try.prog.cellsOf 28 ∧ Row.okWide Try.prog W .any base 28 cs := by
    simpa [Value.okWide, Try.underlying28] using hv
  rw [show Try.prog.cellsOf 28 = 8 by kernel_rfl] at hsz
  obtain ⟨l⟩ := cs
  obtain ⟨c0, c1, c2, c3, c4, c5, c6, c7, rfl⟩ := list8 l hsz
  obtain ⟨fuel, hf⟩ := h
  obtain ⟨xs, m, _, ex, hlen, hl, hel⟩ := DataW.trod_array Try.underlying28 hf
  have h0 := hel 0 (by omega)
  have h1 := hel 1 (by omega)
  rw [show Try.prog.cellsOf 24 = 4 by kernel_rfl] at h0 h1
  simp [Value.cells] at h0 h1
  obtain ⟨x0, e0⟩ : ∃ x, xs[0]? = some x := ⟨xs[0]'(by omega), by simp [hl]⟩
  obtain ⟨x1, e1⟩ : ∃ x, xs[1]? = some x := ⟨xs[1]'(by omega), by simp [hl]⟩
  rw [e0] at h0
  rw [e1] at h1
  obtain ⟨y0, y1, y2, y3, m1, hx, hy0, hy1, hy2, hy3⟩ := trod_array4 Try.underlying24 (by kernel_rfl) h0
  obtain ⟨z0, z1, z2, z3, m2, hz, hz0, hz1, hz2, hz3⟩ := trod_array4 Try.underlying24 (by kernel_rfl) h1
  obtain ⟨n0, f0, rfl, w0⟩ := DataW.trod_int Try.underlying22 hy0
  obtain ⟨n1, f1, rfl, w1⟩ := DataW.trod_int Try.underlying22 hy1
  obtain ⟨n2, f2, rfl, w2⟩ := DataW.trod_int Try.underlying22 hy2
  obtain ⟨n3, f3, rfl, w3⟩ := DataW.trod_int Try.underlying22 hy3
  obtain ⟨k0, g0, rfl, v0⟩ := DataW.trod_int Try.underlying22 hz0
  obtain ⟨k1, g1, rfl, v1⟩ := DataW.trod_int Try.underlying22 hz1
  obtain ⟨k2, g2, rfl, v2⟩ := DataW.trod_int Try.underlying22 hz2
  obtain ⟨k3, g3, rfl, v3⟩ := DataW.trod_int Try.underlying22 hz3
  simp at f0 f1 f2 f3 g0 g1 g2 g3
  subst f0 f1 f2 f3 g0 g1 g2 g3
  exact ⟨_, _, _, _, _, _, _, _, rfl, ⟨wd_of w0, wd_of w1, wd_of w2, wd_of w3⟩, wd_of v0, wd_of v1, wd_of v2, wd_of v3⟩
namespace wordsBits
open Go.ChangeShapes Go.WideShapes Go.ChangeAt Go.RowKit
set_option maxRecDepth 100000 in
theorem lifted (os : Os) (started : os.Started) (H : Type) (enc : TypeId × Value → H) :
    ReturnsInHanded {} Try.checked os 4 .any (Rows.wordsBitsSpec.pre6 enc Try.prog Try.f4 Rows.wordsBitsRow.domain false) (Rows.wordsBitsSpec.post enc Try.prog Try.f4 false true false false) := by
  refine returnsInHanded_of_change (C := Try.checked) rowOwn started (by kernel_rfl) Try.func4
    (ChangeSpec.witness6 (enc := enc) (C := Try.checked) false ⟨#[], #[.agg #[.int .u64 0, .int .u64 0, .int .u64 0, .int .u64 0, .int .u64 0, .int .u64 0, .int .u64 0, .int .u64 0], .int .u64 0, .int .i64 0], []⟩ 8 (by kernel_rfl) (by kernel_rfl) (by kernel_rfl) (by kernel_rfl)) ?_
  intro W base args ds gs before hval0 hW hcnd _
  have hval : ∀ (j : Nat) t v, Try.f4.params[j]? = some t → args[j]? = some v → Value.okWide Try.prog W .any base t v := hval0
  have hW' := hW
  obtain ⟨p, q, hA0, hV, rfl, hfz, hnd⟩ := hW
  have hA : DataW.TrodAll enc Try.prog W 0 (fun _ => true) true Try.f4.params.toList args.toList ds p := hA0
  rw [Try.params4] at hA hval
  obtain ⟨v0, vs0, d0, ds0, p0, q0, hargs, rfl, rfl, h0, r0⟩ := trodAll_cons hA
  obtain ⟨v1, vs1, d1, ds1, p1, q1, rfl, rfl, rfl, h1, r1⟩ := trodAll_cons r0
  obtain ⟨v2, vs2, d2, ds2, p2, q2, rfl, rfl, rfl, h2, r2⟩ := trodAll_cons r1
  obtain ⟨rfl, rfl, rfl⟩ := trodAll_nil r2
  obtain rfl : args = #[v0, v1, v2] := by cases args; simp_all
  obtain ⟨rfl, rfl⟩ := trodVars_none hV
  have k0 := h0
  have lt0 : ∀ x ∈ p0, x.block < W.heap.size := by obtain ⟨m, hm⟩ := k0; exact DataW.trod_lt m _ _ _ hm
  have ok0 := hval 0 28 v0 rfl rfl
  have k1 := h1
  have lt1 : ∀ x ∈ p1, x.block < W.heap.size := by obtain ⟨m, hm⟩ := k1; exact DataW.trod_lt m _ _ _ hm
  have ok1 := hval 1 22 v1 rfl rfl
  have k2 := h2
  have lt2 : ∀ x ∈ p2, x.block < W.heap.size := by obtain ⟨m, hm⟩ := k2; exact DataW.trod_lt m _ _ _ hm
  have ok2 := hval 2 3 v2 rfl rfl
  obtain ⟨a0, a1, a2, a3, b0, b1, b2, b3, rfl, ⟨ha0, ha1, ha2, ha3⟩, hb0, hb1, hb2, hb3⟩ := pair_open ok0 k0
  obtain ⟨x, rfl, rfl, rfl, wx⟩ := open_int Try.underlying22 ok1 h1
  obtain ⟨i, rfl, rfl, rfl, wi⟩ := open_int Try.underlying3 ok2 h2
  clear hA0 hval0
  refine (bits_any a0 a1 a2 a3 b0 b1 b2 b3 x i ha0 ha1 ha2 ha3 hb0 hb1 hb2 hb3 (wd_of wx) W).mono fun e W' ⟨he, bel⟩ => ?_
  subst he
  exact ⟨_, rfl, _, _, _, [], _, [], hW', trodAll_mk1 (shut_bool Try.underlying4 _), (trodAll_cons_mk (Below.trod rowLaid (by kernel_rfl) (of_decide_eq_true (by kernel_rfl)) k0 bel lt0) (trodAll_cons_mk (Below.trod rowLaid (by kernel_rfl) (of_decide_eq_true (by kernel_rfl)) k1 bel lt1) (trodAll_cons_mk (Below.trod rowLaid (by kernel_rfl) (of_decide_eq_true (by kernel_rfl)) k2 bel lt2) trodAll_mk0))), rfl, bel.frame _, fun h => by cases h⟩
theorem over : Rows.wordsBitsRow.holds Try.pinned (OpenSpec.ofChange Rows.wordsBitsSpec) :=
  OpenClaim.holds_of_wide 4 Try.f4 rfl rfl rfl rfl rfl rfl rfl ⟨rfl, rfl, rfl, rfl, rfl⟩ rfl rfl rfl rfl rfl (by kernel_rfl) Try.func4 (by kernel_rfl)
    (of_decide_eq_true (by kernel_rfl)) (by unfold Func.isWrapper; first | (rw [if_pos (by decide +kernel)]; kernel_rfl) | (rw [if_neg (by decide +kernel)]; exact ⟨rfl, rfl⟩))
    (fun os started H enc _ => lifted os started H enc)
theorem proved : Rows.WordsBitsSaid := over
end wordsBits
#print axioms wordsBits.proved
end Go.Proofs.Ytcbaoppbdhelpaa
