import Derived.Test.YtddiamocnkffjaaT
import Derived.Test.YtddiamocnkffjaaRows
import Derived.ProofKit
import Derived.OpenShut
import Derived.ShutString
import Derived.ChangeOld
import Derived.Below
namespace Go.Proofs.Ytddiamocnkffjaa
open Go.ChangeShapes Go.WideShapes Go.ChangeAt Go.RowKit Go.Proofs.MyK
set_option linter.unusedVariables false
set_option linter.unusedSimpArgs false
theorem rowOwn : ownKnob Try.prog.godebug = none := by kernel_rfl
theorem rowLaid : laidOutB Try.prog = true := by kernel_rfl
theorem list4 {α : Type} (l : List α) (h : (⟨l⟩ : Array α).size = 4) : ∃ a b c d, l = [a, b, c, d] := by
  match l, h with
  | [a, b, c, d], _ => exact ⟨a, b, c, d, rfl⟩
theorem byte_of {x : Int} (h : (Lit.int .u8 x).wf = true) : 0 ≤ x ∧ x < 256 := by
  simp [Lit.wf, IntKind.min, IntKind.max, IntKind.signed, IntKind.bits] at h
  omega
theorem bs_open {H : Type} {enc : TypeId × Value → H} {W : World} {held : Bool} {fuel : Nat} {cs : List Value} {x : DataW H × List MemPlace} (h : DataW.trod enc Try.prog W 0 (fun _ => true) held fuel 22 cs = some x) :
    ∃ v l, cs = [v] ∧ Bs W v l := by
  have hc : Try.prog.cellsOf 5 = 1 := by kernel_rfl
  rcases Go.ChangeShapes.open_ints Try.underlying22 Try.underlying5 hc h with ⟨rfl, _⟩ | ⟨a, len, cap, zs, rfl, _, hle, hmax, hall, _, hcell, hwf⟩
  · exact ⟨_, [], rfl, Bs.nil W⟩
  · rw [if_pos rfl] at hall
    have hl : (zs.take len).length = len := by simp; omega
    refine ⟨_, zs.take len, rfl, fun y hy => byte_of (hwf y (List.mem_of_mem_take hy)), some a, cap, by rw [hl], by omega, hmax, (fun e => by cases e), fun ad e hcp => ?_⟩
    cases e
    obtain ⟨b, off, rfl, hc2⟩ := ints_at hcell (by omega)
    refine ⟨b, off, rfl, fun hp => ⟨World.block_lt_of_cell? W ⟨b, off + 0, none⟩ (hc2 0 (by omega)), fun k hk => ?_⟩⟩
    rw [hl] at hk
    rw [hc2 k (by omega)]
    have h2 : k < zs.length := by omega
    simp [List.getD_eq_getElem?_getD, hk, h2]
theorem trod_struct4 {H : Type} {enc : TypeId × Value → H} {P : Program} {w : World} {base : Nat} {spare : Nat → Bool} {held : Bool} {t : TypeId} {f0 f1 f2 f3 : Field} {fuel : Nat} {cs : List Value} {x : DataW H × List MemPlace} (ht : P.underlying t = some (.struct #[f0, f1, f2, f3])) (h : DataW.trod enc P w base spare held fuel t cs = some x) :
    ∃ y0 y1 y2 y3 n, DataW.trod enc P w base spare held n f0.type ((cs.drop f0.offset).take (P.cellsOf f0.type)) = some y0 ∧ DataW.trod enc P w base spare held n f1.type ((cs.drop f1.offset).take (P.cellsOf f1.type)) = some y1 ∧
      DataW.trod enc P w base spare held n f2.type ((cs.drop f2.offset).take (P.cellsOf f2.type)) = some y2 ∧ DataW.trod enc P w base spare held n f3.type ((cs.drop f3.offset).take (P.cellsOf f3.type)) = some y3 := by
  obtain ⟨xs, n, _, rfl, hl, hlen, hf⟩ := DataW.trod_struct ht h
  match xs, hlen with
  | [y0, y1, y2, y3], _ => exact ⟨y0, y1, y2, y3, n, by simpa using hf 0 f0 rfl, by simpa using hf 1 f1 rfl, by simpa using hf 2 f2 rfl, by simpa using hf 3 f3 rfl⟩
theorem job_open {H : Type} {enc : TypeId × Value → H} {W : World} {base : Nat} {held : Bool} {v : Value} {d : DataW H} {p : List MemPlace} (hv : Value.okWide Try.prog W .any base 24 v) (h : DataW.Trod enc Try.prog W 0 (fun _ => true) held 24 v d p) :
    ∃ v0 v1 v2 v3 l0 l1 l2 l3, v = .agg #[v0, v1, v2, v3] ∧ Bs W v0 l0 ∧ Bs W v1 l1 ∧ Bs W v2 l2 ∧ Bs W v3 l3 := by
  obtain ⟨cs, rfl, hsz, _⟩ : ∃ cs, v = .agg cs ∧ cs.size = Try.prog.cellsOf 24 ∧ Row.okWide Try.prog W .any base 24 cs := by
    simpa [Value.okWide, Try.underlying24] using hv
  rw [show Try.prog.cellsOf 24 = 4 by kernel_rfl] at hsz
  obtain ⟨l⟩ := cs
  obtain ⟨c0, c1, c2, c3, rfl⟩ := list4 l hsz
  obtain ⟨fuel, hf⟩ := h
  obtain ⟨y0, y1, y2, y3, m, hy0, hy1, hy2, hy3⟩ := trod_struct4 Try.underlying24 hf
  have h22 : Try.prog.cellsOf 22 = 1 := by kernel_rfl
  obtain ⟨u0, l0, e0, b0⟩ := bs_open hy0
  obtain ⟨u1, l1, e1, b1⟩ := bs_open hy1
  obtain ⟨u2, l2, e2, b2⟩ := bs_open hy2
  obtain ⟨u3, l3, e3, b3⟩ := bs_open hy3
  simp [Value.cells, h22] at e0 e1 e2 e3
  subst e0 e1 e2 e3
  exact ⟨_, _, _, _, l0, l1, l2, l3, rfl, b0, b1, b2, b3⟩
end Go.Proofs.Ytddiamocnkffjaa
