/- WordsBytes: any number is written and read, the highest byte first, or the lowest, as the document says; what hasn't 32 bytes is none; nothing that was there is written. No condition. -/
import Derived.Test.YtcbaoppbdhelpaaAc
import Derived.Test.YtcbaoppbdhelpaaO
namespace Go.Proofs.Ytcbaoppbdhelpaa
open Go.RowKit Go.Proofs Go.Proofs.MyK
set_option linter.unusedVariables false
set_option linter.unusedSimpArgs false
theorem byte_of {x : Int} (h : (Lit.int .u8 x).wf = true) : 0 ≤ x ∧ x < 256 := by
  simp [Lit.wf, IntKind.min, IntKind.max, IntKind.signed, IntKind.bits] at h
  omega
theorem bytes_open {H : Type} {enc : TypeId × Value → H} {W : World} {base : Nat} {sp : Nat → Bool} {held : Bool} {v : Value} {d : DataW H} {p : List MemPlace} (hv : Value.okWide Try.prog W .any base 36 v) (h : DataW.Trod enc Try.prog W 0 sp held 36 v d p) :
    ∃ a n cap, v = .slice a n cap ∧ (n = 32 → ∃ b off z, a = some ⟨b, off, none⟩ ∧ 32 ≤ cap ∧ cap ≤ 9223372036854775807 ∧ (∀ k, 0 ≤ z k ∧ z k < 256) ∧ By32 W b off z) := by
  obtain ⟨a0, n, cap, rfl⟩ := Go.WideShapes.okWide_slice Try.underlying36 hv
  obtain ⟨fuel, hf⟩ := h
  have hc : Try.prog.cellsOf 5 = 1 := by kernel_rfl
  refine ⟨a0, n, cap, rfl, fun h32 => ?_⟩
  subst h32
  rcases Go.ChangeShapes.open_ints Try.underlying36 Try.underlying5 hc hf with ⟨hcs, _⟩ | ⟨a, len', cap', zs, hcs, _, hle, hmax, hall, _, hcell, hwf⟩
  · simp [Value.cells] at hcs
  · simp [Value.cells] at hcs
    obtain ⟨rfl, rfl, rfl⟩ := hcs
    have hl : 32 ≤ zs.length := by rw [hall]; split <;> omega
    obtain ⟨b, off, rfl, hc2⟩ := ints_at hcell (by omega)
    refine ⟨b, off, fun k => zs.getD k 0, rfl, hle, by unfold maxLen at hmax; omega, fun k => ?_, ?_, fun k hk => hc2 k (by omega)⟩
    · show 0 ≤ zs.getD k 0 ∧ zs.getD k 0 < 256
      rw [List.getD_eq_getElem?_getD]
      cases hg : zs[k]? with
      | none => simp
      | some x => exact byte_of (hwf x (List.mem_of_getElem? hg))
    · exact World.block_lt_of_cell? W ⟨b, off + 0, none⟩ (hc2 0 (by omega))
theorem bytes_any (a0 a1 a2 a3 : Int) (ha0 : Wd a0) (ha1 : Wd a1) (ha2 : Wd a2) (ha3 : Wd a3) (a : Option Addr) (n cap : Nat) (W : World) (hb : n = 32 → ∃ b off z, a = some ⟨b, off, none⟩ ∧ 32 ≤ cap ∧ cap ≤ 9223372036854775807 ∧ (∀ k, 0 ≤ z k ∧ z k < 256) ∧ By32 W b off z) :
    Calls Try.prog 7 #[.agg #[.int .u64 a0, .int .u64 a1, .int .u64 a2, .int .u64 a3], .slice a n cap] W fun e w' => e = .returned (.bool true) ∧ Below W.heap.size W w' := by
  by_cases h : n = 32
  · obtain ⟨b, off, z, rfl, h1, h2, h3, h4⟩ := hb h
    subst h
    exact bytes_32 a0 a1 a2 a3 ha0 ha1 ha2 ha3 b off cap z _ _ _ _ _ _ _ _ rfl rfl h1 h2 h3 W h4
  · exact bytes_no a0 a1 a2 a3 ha0 ha1 ha2 ha3 a n cap (by simp; omega) W
namespace wordsBytes
open Go.ChangeShapes Go.WideShapes Go.ChangeAt Go.RowKit
set_option maxRecDepth 100000 in
theorem lifted (os : Os) (started : os.Started) (H : Type) (enc : TypeId × Value → H) :
    ReturnsInHanded {} Try.checked os 7 .any (Rows.wordsBytesSpec.pre6 enc Try.prog Try.f7 Rows.wordsBytesRow.domain false) (Rows.wordsBytesSpec.post enc Try.prog Try.f7 false true false false) := by
  refine returnsInHanded_of_change (C := Try.checked) rowOwn started (by kernel_rfl) Try.func7
    (ChangeSpec.witness6 (enc := enc) (C := Try.checked) false ⟨#[], #[.agg #[.int .u64 0, .int .u64 0, .int .u64 0, .int .u64 0], .slice none 0 0], []⟩ 8 (by kernel_rfl) (by kernel_rfl) (by kernel_rfl) (by kernel_rfl)) ?_
  intro W base args ds gs before hval0 hW hcnd _
  have hval : ∀ (j : Nat) t v, Try.f7.params[j]? = some t → args[j]? = some v → Value.okWide Try.prog W .any base t v := hval0
  have hW' := hW
  obtain ⟨p, q, hA0, hV, rfl, hfz, hnd⟩ := hW
  have hA : DataW.TrodAll enc Try.prog W 0 (fun _ => true) true Try.f7.params.toList args.toList ds p := hA0
  rw [Try.params7] at hA hval
  obtain ⟨v0, vs0, d0, ds0, p0, q0, hargs, rfl, rfl, h0, r0⟩ := trodAll_cons hA
  obtain ⟨v1, vs1, d1, ds1, p1, q1, rfl, rfl, rfl, h1, r1⟩ := trodAll_cons r0
  obtain ⟨rfl, rfl, rfl⟩ := trodAll_nil r1
  obtain rfl : args = #[v0, v1] := by cases args; simp_all
  obtain ⟨rfl, rfl⟩ := trodVars_none hV
  have k0 := h0
  have lt0 : ∀ x ∈ p0, x.block < W.heap.size := by obtain ⟨m, hm⟩ := k0; exact DataW.trod_lt m _ _ _ hm
  have ok0 := hval 0 24 v0 rfl rfl
  have k1 := h1
  have lt1 : ∀ x ∈ p1, x.block < W.heap.size := by obtain ⟨m, hm⟩ := k1; exact DataW.trod_lt m _ _ _ hm
  have ok1 := hval 1 36 v1 rfl rfl
  obtain ⟨a0, a1, a2, a3, rfl, ha0, ha1, ha2, ha3⟩ := num_open ok0 k0
  obtain ⟨av, an, ac, rfl, hab⟩ := bytes_open ok1 k1
  clear hA0 hval0
  refine (bytes_any a0 a1 a2 a3 ha0 ha1 ha2 ha3 av an ac W hab).mono fun e W' ⟨he, bel⟩ => ?_
  subst he
  exact ⟨_, rfl, _, _, _, [], _, [], hW', trodAll_mk1 (shut_bool Try.underlying4 _), (trodAll_cons_mk (Below.trod rowLaid (by kernel_rfl) (of_decide_eq_true (by kernel_rfl)) k0 bel lt0) (trodAll_cons_mk (Below.trod rowLaid (by kernel_rfl) (of_decide_eq_true (by kernel_rfl)) k1 bel lt1) trodAll_mk0)), rfl, bel.frame _, fun h => by cases h⟩
theorem over : Rows.wordsBytesRow.holds Try.pinned (OpenSpec.ofChange Rows.wordsBytesSpec) :=
  OpenClaim.holds_of_wide 7 Try.f7 rfl rfl rfl rfl rfl rfl rfl ⟨rfl, rfl, rfl, rfl, rfl⟩ rfl rfl rfl rfl rfl (by kernel_rfl) Try.func7 (by kernel_rfl)
    (of_decide_eq_true (by kernel_rfl)) (by unfold Func.isWrapper; first | (rw [if_pos (by decide +kernel)]; kernel_rfl) | (rw [if_neg (by decide +kernel)]; exact ⟨rfl, rfl⟩))
    (fun os started H enc _ => lifted os started H enc)
theorem proved : Rows.WordsBytesSaid := over
end wordsBytes
#print axioms wordsBytes.proved
end Go.Proofs.Ytcbaoppbdhelpaa
