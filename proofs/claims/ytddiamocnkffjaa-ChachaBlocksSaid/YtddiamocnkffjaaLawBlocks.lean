/- ChachaBlocks: blocks, and what they turn, are the document's; a key or a nonce of another length is refused; nothing that was there is written. No condition. -/
import Derived.Test.YtddiamocnkffjaaOp
import Derived.Test.YtddiamocnkffjaaW
import Derived.Test.YtddiamocnkffjaaX
import Derived.SizedLaws
namespace Go.Proofs.Ytddiamocnkffjaa
open Go.RowKit Go.Proofs Go.Proofs.MyK
set_option linter.unusedVariables false
set_option linter.unusedSimpArgs false
theorem w32_of2 {x : Int} (h : (Lit.int .u32 x).wf = true) : W32 x := by
  simp [Lit.wf, IntKind.min, IntKind.max, IntKind.signed, IntKind.bits] at h
  unfold W32; omega
theorem u32_open2 {H : Type} {enc : TypeId × Value → H} {W : World} {base : Nat} {held : Bool} {v : Value} {d : DataW H} {p : List MemPlace} (hv : Value.okWide Try.prog W .any base 25 v) (h : DataW.Trod enc Try.prog W 0 (fun _ => true) held 25 v d p) :
    ∃ c, v = .int .u32 c ∧ W32 c := by
  obtain ⟨c, rfl⟩ := Go.WideShapes.okWide_int Try.underlying25 hv
  obtain ⟨fuel, hf⟩ := h
  obtain ⟨x, e, _, wx⟩ := DataW.trod_int Try.underlying25 hf
  simp [Value.cells] at e
  subst e
  exact ⟨_, rfl, w32_of2 wx⟩
theorem bs_open2 {H : Type} {enc : TypeId × Value → H} {W : World} {held : Bool} {fuel : Nat} {cs : List Value} {x : DataW H × List MemPlace} (h : DataW.trod enc Try.prog W 0 (fun _ => true) held fuel 22 cs = some x) :
    ∃ v l, cs = [v] ∧ Bs W v l ∧ ((∀ n ∈ DataW.weights Try.prog 22 x.1, n ≤ reachBytes) → l.length ≤ 140737488351232) := by
  have hc : Try.prog.cellsOf 5 = 1 := by kernel_rfl
  have hby : Try.prog.bytesOf 5 = 1 := by kernel_rfl
  rcases Go.ChangeShapes.open_ints Try.underlying22 Try.underlying5 hc h with ⟨rfl, _⟩ | ⟨a, len, cap, zs, rfl, _, hle, hmax, hall, hx, hcell, hwf⟩
  · exact ⟨_, [], rfl, Bs.nil W, fun _ => by simp⟩
  · rw [if_pos rfl] at hall
    have hl : (zs.take len).length = len := by simp; omega
    refine ⟨_, zs.take len, rfl, ⟨fun y hy => byte_of (hwf y (List.mem_of_mem_take hy)), some a, cap, by rw [hl], by omega, hmax, (fun e => by cases e), fun ad e hcp => ?_⟩, fun hw => ?_⟩
    · cases e
      obtain ⟨b, off, rfl, hc2⟩ := ints_at hcell (by omega)
      refine ⟨b, off, rfl, fun hp => ⟨World.block_lt_of_cell? W ⟨b, off + 0, none⟩ (hc2 0 (by omega)), fun k hk => ?_⟩⟩
      rw [hl] at hk
      rw [hc2 k (by omega)]
      have h2 : k < zs.length := by omega
      simp [List.getD_eq_getElem?_getD, hk, h2]
    · subst hx
      have h1 := hw _ (by simp [DataW.weights, Try.underlying22]; exact Or.inl rfl)
      rw [hby] at h1
      simp only [Go.ChangeShapes.lits, List.length_map, List.length_take, List.length_drop, reachBytes] at h1
      rw [hl]; omega
theorem job_open2 {H : Type} {enc : TypeId × Value → H} {W : World} {base : Nat} {held : Bool} {v : Value} {d : DataW H} {p : List MemPlace} (hv : Value.okWide Try.prog W .any base 24 v) (h : DataW.Trod enc Try.prog W 0 (fun _ => true) held 24 v d p) :
    ∃ v0 v1 v2 v3 l0 l1 l2 l3, v = .agg #[v0, v1, v2, v3] ∧ Bs W v0 l0 ∧ Bs W v1 l1 ∧ Bs W v2 l2 ∧ Bs W v3 l3 ∧ ((∀ n ∈ DataW.weights Try.prog 24 d, n ≤ reachBytes) → l3.length ≤ 140737488351232) := by
  obtain ⟨cs, rfl, hsz, _⟩ : ∃ cs, v = .agg cs ∧ cs.size = Try.prog.cellsOf 24 ∧ Row.okWide Try.prog W .any base 24 cs := by
    simpa [Value.okWide, Try.underlying24] using hv
  rw [show Try.prog.cellsOf 24 = 4 by kernel_rfl] at hsz
  obtain ⟨l⟩ := cs
  obtain ⟨c0, c1, c2, c3, rfl⟩ := list4 l hsz
  obtain ⟨fuel, hf⟩ := h
  obtain ⟨xs, n, _, hx, _, hlen, hfs⟩ := DataW.trod_struct Try.underlying24 hf
  match xs, hlen, hx, hfs with
  | [y0, y1, y2, y3], _, hx, hfs =>
    have h22 : Try.prog.cellsOf 22 = 1 := by kernel_rfl
    have hy0 := hfs 0 _ rfl
    have hy1 := hfs 1 _ rfl
    have hy2 := hfs 2 _ rfl
    have hy3 := hfs 3 _ rfl
    obtain ⟨u0, l0, e0, b0, _⟩ := bs_open2 hy0
    obtain ⟨u1, l1, e1, b1, _⟩ := bs_open2 hy1
    obtain ⟨u2, l2, e2, b2, _⟩ := bs_open2 hy2
    obtain ⟨u3, l3, e3, b3, hw3⟩ := bs_open2 hy3
    simp [Value.cells, h22] at e0 e1 e2 e3
    subst e0 e1 e2 e3
    refine ⟨_, _, _, _, l0, l1, l2, l3, rfl, b0, b1, b2, b3, fun hw => hw3 fun n hn => hw n ?_⟩
    simp only [Prod.mk.injEq] at hx
    rw [hx.1]
    simp [DataW.weights, DataW.weightsEach, Try.underlying24]
    simp [hn]
theorem blocks_any (v0 v1 v2 v3 : Value) (l0 l1 l2 l3 : List Int) (c : Int) (hcc : W32 c) (w : World) (h0 : Bs w v0 l0) (h1 : Bs w v1 l1) (h2 : Bs w v2 l2) (h3 : Bs w v3 l3) (hm3 : l3.length ≤ 140737488355328) :
    Calls Try.prog 3 #[.agg #[v0, v1, v2, v3], .int .u32 c] w fun e w' => e = .returned (.bool true) ∧ Below w.heap.size w w' := by
  by_cases e0 : l0.length = 32
  · by_cases e1 : l1.length = 12
    · by_cases hf : l2.length ≤ 300 ∧ l3.length ≤ 500
      · exact blocks_fit v0 v1 v2 v3 l0 l1 l2 l3 c hcc w h0 h1 h2 h3 hm3 e0 e1 hf
      · exact blocks_un v0 v1 v2 v3 l0 l1 l2 l3 c hcc w h0 h1 h2 h3 hm3 e0 e1 hf
    · exact blocks_err v0 v1 v2 v3 l0 l1 l2 l3 c w h0 h1 h2 h3 hm3 (.inr e1)
  · exact blocks_err v0 v1 v2 v3 l0 l1 l2 l3 c w h0 h1 h2 h3 hm3 (.inl e0)
namespace chachaBlocks
open Go.ChangeShapes Go.WideShapes Go.ChangeAt Go.RowKit
set_option maxRecDepth 100000 in
theorem lifted (os : Os) (started : os.Started) (H : Type) (enc : TypeId × Value → H) :
    ReturnsInHanded {} Try.checked os 3 .any (Rows.chachaBlocksSpec.pre6 enc Try.prog Try.f3 Rows.chachaBlocksRow.domain false) (Rows.chachaBlocksSpec.post enc Try.prog Try.f3 false true false false) := by
  refine returnsInHanded_of_change_sized (C := Try.checked) rowOwn started (by kernel_rfl) Try.func3
    (ChangeSpec.witness6 (enc := enc) (C := Try.checked) false ⟨#[], #[.agg #[.slice none 0 0, .slice none 0 0, .slice none 0 0, .slice none 0 0], .int .u32 0], []⟩ 8 (by kernel_rfl) (by kernel_rfl) (by kernel_rfl) (by kernel_rfl)) ?_
  intro W base args ds gs before hval0 hW hcnd hsz0 _
  have hval : ∀ (j : Nat) t v, Try.f3.params[j]? = some t → args[j]? = some v → Value.okWide Try.prog W .any base t v := hval0
  have hW' := hW
  obtain ⟨p, q, hA0, hV, rfl, hfz, hnd⟩ := hW
  have hA : DataW.TrodAll enc Try.prog W 0 (fun _ => true) true Try.f3.params.toList args.toList ds p := hA0
  have hsz : (DataW.weightsEach Try.prog (Try.f3.params.toList ++ Rows.chachaBlocksSpec.plain.varTypes Try.prog) (ds ++ gs)).all (· ≤ reachBytes) = true := hsz0
  rw [Try.params3] at hA hval hsz
  obtain ⟨v0, vs0, d0, ds0, p0, q0, hargs, rfl, rfl, h0, r0⟩ := trodAll_cons hA
  obtain ⟨v1, vs1, d1, ds1, p1, q1, rfl, rfl, rfl, h1, r1⟩ := trodAll_cons r0
  obtain ⟨rfl, rfl, rfl⟩ := trodAll_nil r1
  obtain rfl : args = #[v0, v1] := by cases args; simp_all
  obtain ⟨rfl, rfl⟩ := trodVars_none hV
  have k0 := h0
  have lt0 : ∀ x ∈ p0, x.block < W.heap.size := by obtain ⟨m, hm⟩ := k0; exact DataW.trod_lt m _ _ _ hm
  have ok0 := hval 0 24 v0 rfl rfl
  have k1 := h1
  have lt1 : ∀ x ∈ p1, x.block < W.heap.size := by obtain ⟨m, hm⟩ := k1; exact DataW.trod_lt m _ _ _ hm
  have ok1 := hval 1 25 v1 rfl rfl
  obtain ⟨u0, u1, u2, u3, l0, l1, l2, l3, rfl, b0, b1, b2, b3, hw3⟩ := job_open2 ok0 k0
  have hm3 : l3.length ≤ 140737488355328 := Nat.le_trans (hw3 (fun n hn => by simpa using List.all_eq_true.1 hsz n (DataW.weights_mem_each (j := 0) (t := 24) rfl rfl n hn))) (by omega)
  obtain ⟨c, rfl, hc⟩ := u32_open2 ok1 k1
  clear hA0 hval0
  refine (blocks_any u0 u1 u2 u3 l0 l1 l2 l3 c hc W b0 b1 b2 b3 hm3).mono fun e W' ⟨he, bel⟩ => ?_
  subst he
  exact ⟨_, rfl, _, _, _, [], _, [], hW', trodAll_mk1 (shut_bool Try.underlying4 _), (trodAll_cons_mk (Below.trod rowLaid (by kernel_rfl) (of_decide_eq_true (by kernel_rfl)) k0 bel lt0) (trodAll_cons_mk (Below.trod rowLaid (by kernel_rfl) (of_decide_eq_true (by kernel_rfl)) k1 bel lt1) trodAll_mk0)), rfl, bel.frame _, fun h => by cases h⟩
theorem over : Rows.chachaBlocksRow.holds Try.pinned (OpenSpec.ofChange Rows.chachaBlocksSpec) :=
  OpenClaim.holds_of_wide 3 Try.f3 rfl rfl rfl rfl rfl rfl rfl ⟨rfl, rfl, rfl, rfl, rfl⟩ rfl rfl rfl rfl rfl (by kernel_rfl) Try.func3 (by kernel_rfl)
    (of_decide_eq_true (by kernel_rfl)) (by unfold Func.isWrapper; first | (rw [if_pos (by decide +kernel)]; kernel_rfl) | (rw [if_neg (by decide +kernel)]; exact ⟨rfl, rfl⟩))
    (fun os started H enc _ => lifted os started H enc)
theorem proved : Rows.ChachaBlocksSaid := over
end chachaBlocks
#print axioms chachaBlocks.proved
end Go.Proofs.Ytddiamocnkffjaa
