/- WordsBack: of any two numbers: what is added is taken away again, and a number less itself is nothing; nothing that was there is written. No condition. -/
import Derived.Test.YtcbaoppbdhelpaaG
import Derived.Test.YtcbaoppbdhelpaaH
import Derived.Test.YtcbaoppbdhelpaaO
namespace Go.Proofs.Ytcbaoppbdhelpaa
open Go.RowKit Go.Proofs Go.Proofs.MyK
set_option linter.unusedVariables false
set_option linter.unusedSimpArgs false
theorem back_s {x y c : Int} (hx : Wd x) (hy : Wd y) (h0 : 0 ≤ c) (h1 : c ≤ 1) : difS (sumS x y c) y c = x := by unfold difS sumS Wd M at *; omega
theorem back_b {x y c : Int} (hx : Wd x) (hy : Wd y) (h0 : 0 ≤ c) (h1 : c ≤ 1) : difB (sumS x y c) y c = sumC x y c := by unfold difB sumS sumC Wd M at *; split <;> omega
theorem self_s (x : Int) : difS x x 0 = 0 := by unfold difS M; omega
theorem self_b (x : Int) : difB x x 0 = 0 := by unfold difB; split <;> omega
theorem sub_back (a0 a1 a2 a3 b0 b1 b2 b3 : Int) (ha0 : Wd a0) (ha1 : Wd a1) (ha2 : Wd a2) (ha3 : Wd a3) (hb0 : Wd b0) (hb1 : Wd b1) (hb2 : Wd b2) (hb3 : Wd b3) (w : World) :
    Calls Try.prog 15 #[.agg #[.int .u64 (sumS a0 b0 0), .int .u64 (sumS a1 b1 (sumC a0 b0 0)), .int .u64 (sumS a2 b2 (sumC a1 b1 (sumC a0 b0 0))), .int .u64 (sumS a3 b3 (sumC a2 b2 (sumC a1 b1 (sumC a0 b0 0))))], .agg #[.int .u64 b0, .int .u64 b1, .int .u64 b2, .int .u64 b3]] w fun e w' => e = .returned (.tuple #[.agg #[.int .u64 a0, .int .u64 a1, .int .u64 a2, .int .u64 a3], .int .u64 (sumC a3 b3 (sumC a2 b2 (sumC a1 b1 (sumC a0 b0 0))))]) ∧ Below w.heap.size w w' := by
  have k1 := sumC_bd ha0 hb0 (c := 0) (by omega) (by omega)
  have k2 := sumC_bd ha1 hb1 k1.1 k1.2
  have k3 := sumC_bd ha2 hb2 k2.1 k2.2
  have h := sub_calls (sumS a0 b0 0) (sumS a1 b1 (sumC a0 b0 0)) (sumS a2 b2 (sumC a1 b1 (sumC a0 b0 0))) (sumS a3 b3 (sumC a2 b2 (sumC a1 b1 (sumC a0 b0 0)))) b0 b1 b2 b3 (sumS_wd _ _ _) (sumS_wd _ _ _) (sumS_wd _ _ _) (sumS_wd _ _ _) hb0 hb1 hb2 hb3 w
  rw [back_b ha0 hb0 (by omega) (by omega), back_b ha1 hb1 k1.1 k1.2, back_b ha2 hb2 k2.1 k2.2, back_b ha3 hb3 k3.1 k3.2, back_s ha0 hb0 (by omega) (by omega), back_s ha1 hb1 k1.1 k1.2, back_s ha2 hb2 k2.1 k2.2, back_s ha3 hb3 k3.1 k3.2] at h
  exact h
theorem sub_self (a0 a1 a2 a3 : Int) (ha0 : Wd a0) (ha1 : Wd a1) (ha2 : Wd a2) (ha3 : Wd a3) (w : World) :
    Calls Try.prog 15 #[.agg #[.int .u64 a0, .int .u64 a1, .int .u64 a2, .int .u64 a3], .agg #[.int .u64 a0, .int .u64 a1, .int .u64 a2, .int .u64 a3]] w fun e w' => e = .returned (.tuple #[.agg #[.int .u64 0, .int .u64 0, .int .u64 0, .int .u64 0], .int .u64 0]) ∧ Below w.heap.size w w' := by
  have h := sub_calls a0 a1 a2 a3 a0 a1 a2 a3 ha0 ha1 ha2 ha3 ha0 ha1 ha2 ha3 w
  rw [self_b, self_b, self_b, self_b, self_s, self_s, self_s, self_s] at h
  exact h
set_option maxHeartbeats 1000000 in
theorem back_any (a0 a1 a2 a3 b0 b1 b2 b3 : Int) (ha0 : Wd a0) (ha1 : Wd a1) (ha2 : Wd a2) (ha3 : Wd a3) (hb0 : Wd b0) (hb1 : Wd b1) (hb2 : Wd b2) (hb3 : Wd b3) (w : World) :
    Calls Try.prog 6 #[.agg #[.int .u64 a0, .int .u64 a1, .int .u64 a2, .int .u64 a3], .agg #[.int .u64 b0, .int .u64 b1, .int .u64 b2, .int .u64 b3]] w fun e w' => e = .returned (.bool true) ∧ Below w.heap.size w w' := by
  have q1 := eq24 a0 a1 a2 a3 a0 a1 a2 a3 true (by simp)
  have q2 := eq24 0 0 0 0 0 0 0 0 true (by simp)
  have L1 := Lib.hid (fun w => less_v a0 a1 a2 a3 a0 a1 a2 a3 false ha0 ha1 ha2 ha3 ha0 ha1 ha2 ha3 (by simp) w)
  have A1 := Lib.hid (fun w => add_calls a0 a1 a2 a3 b0 b1 b2 b3 ha0 ha1 ha2 ha3 hb0 hb1 hb2 hb3 w)
  have S1 := Lib.hid (fun w => sub_back a0 a1 a2 a3 b0 b1 b2 b3 ha0 ha1 ha2 ha3 hb0 hb1 hb2 hb3 w)
  have S2 := Lib.hid (fun w => sub_self a0 a1 a2 a3 ha0 ha1 ha2 ha3 w)
  clear ha0 ha1 ha2 ha3 hb0 hb1 hb2 hb3
  go_enter Try.func6, Try.ntmps6
  go_wp2_with (first
    | (go_at_call 8; refine (sound_calls _).mono ?_; rintro e w1 ⟨rfl, hb0⟩; have hbel : Below w.heap.size w _ := below_S (by repeat (first | (with_reducible exact Below.refl _ _) | (with_reducible refine bel_drew ?_) | (with_reducible refine bel_alloc ?_ _))) hb0; have hv2 := VRow.belowS (b := w.heap.size) (T := 24) (xs := [.int .u64 a0, .int .u64 a1, .int .u64 a2, .int .u64 a3]) (by repeat (first | ((with_reducible refine VRow.new' ?_ ?_); (focus (simp; done)); rfl) | (with_reducible refine VRow.alloc ?_ _) | (with_reducible refine VRow.drew ?_))) hb0; have hv3 := VRow.belowS (b := w.heap.size + 1) (T := 24) (xs := [.int .u64 b0, .int .u64 b1, .int .u64 b2, .int .u64 b3]) (by repeat (first | ((with_reducible refine VRow.new' ?_ ?_); (focus (simp; done)); rfl) | (with_reducible refine VRow.alloc ?_ _) | (with_reducible refine VRow.drew ?_))) hb0; clear hb0)
    | (refine wpList_load_vrow rfl rfl rfl hv2 Try.underlying24 rfl (by kernel_rfl) ?_; simp only [Act.put, List.setIfInBounds_toArray, List.set_cons_zero, List.set_cons_succ])
    | (refine wpList_load_vrow rfl rfl rfl (VRow.alloc hv2 _) Try.underlying24 rfl (by kernel_rfl) ?_; simp only [Act.put, List.setIfInBounds_toArray, List.set_cons_zero, List.set_cons_succ])
    | (refine wpList_load_vrow rfl rfl rfl hv3 Try.underlying24 rfl (by kernel_rfl) ?_; simp only [Act.put, List.setIfInBounds_toArray, List.set_cons_zero, List.set_cons_succ])
    | (refine wpList_load_vrow rfl rfl rfl (VRow.alloc hv3 _) Try.underlying24 rfl (by kernel_rfl) ?_; simp only [Act.put, List.setIfInBounds_toArray, List.set_cons_zero, List.set_cons_succ])
    | (refine wpList_load_vrow rfl rfl rfl hv7 Try.underlying24 rfl (by kernel_rfl) ?_; simp only [Act.put, List.setIfInBounds_toArray, List.set_cons_zero, List.set_cons_succ])
    | (refine wpList_load_vrow rfl rfl rfl (VRow.alloc hv7 _) Try.underlying24 rfl (by kernel_rfl) ?_; simp only [Act.put, List.setIfInBounds_toArray, List.set_cons_zero, List.set_cons_succ])
    | (go_at_call 13; (with_reducible refine (A1.out _).mono ?_); rintro e w1 ⟨rfl, hb1⟩; replace hbel := below_S hbel hb1; replace hv2 := VRow.belowS hv2 hb1; replace hv3 := VRow.belowS hv3 hb1; clear hb1)
    | (go_at_call 15; (with_reducible refine (S1.out _).mono ?_); rintro e w1 ⟨rfl, hb1⟩; replace hbel := below_S (bel_alloc hbel _) hb1; replace hv2 := VRow.belowS (VRow.alloc hv2 _) hb1; replace hv3 := VRow.belowS (VRow.alloc hv3 _) hb1; clear hb1)
    | (go_at_call 15; (with_reducible refine (S2.out _).mono ?_); rintro e w1 ⟨rfl, hb1⟩; replace hbel := below_S (bel_alloc hbel _) hb1; replace hv2 := VRow.belowS (VRow.alloc hv2 _) hb1; replace hv3 := VRow.belowS (VRow.alloc hv3 _) hb1; have hv7 := VRow.belowS (VRow.new' (xs := [.int .u64 a0, .int .u64 a1, .int .u64 a2, .int .u64 a3]) rfl rfl) hb1; clear hb1)
    | (go_at_call 9; (with_reducible refine (L1.out _).mono ?_); rintro e w1 ⟨rfl, hb1⟩; replace hbel := below_S (bel_alloc hbel _) hb1; clear hb1))
  go_ret
  exact ⟨rfl, hbel⟩
namespace wordsBack
open Go.ChangeShapes Go.WideShapes Go.ChangeAt Go.RowKit
set_option maxRecDepth 100000 in
theorem lifted (os : Os) (started : os.Started) (H : Type) (enc : TypeId × Value → H) :
    ReturnsInHanded {} Try.checked os 6 .any (Rows.wordsBackSpec.pre6 enc Try.prog Try.f6 Rows.wordsBackRow.domain false) (Rows.wordsBackSpec.post enc Try.prog Try.f6 false true false false) := by
  refine returnsInHanded_of_change (C := Try.checked) rowOwn started (by kernel_rfl) Try.func6
    (ChangeSpec.witness6 (enc := enc) (C := Try.checked) false ⟨#[], #[.agg #[.int .u64 0, .int .u64 0, .int .u64 0, .int .u64 0], .agg #[.int .u64 0, .int .u64 0, .int .u64 0, .int .u64 0]], []⟩ 8 (by kernel_rfl) (by kernel_rfl) (by kernel_rfl) (by kernel_rfl)) ?_
  intro W base args ds gs before hval0 hW hcnd _
  have hval : ∀ (j : Nat) t v, Try.f6.params[j]? = some t → args[j]? = some v → Value.okWide Try.prog W .any base t v := hval0
  have hW' := hW
  obtain ⟨p, q, hA0, hV, rfl, hfz, hnd⟩ := hW
  have hA : DataW.TrodAll enc Try.prog W 0 (fun _ => true) true Try.f6.params.toList args.toList ds p := hA0
  rw [Try.params6] at hA hval
  obtain ⟨v0, vs0, d0, ds0, p0, q0, hargs, rfl, rfl, h0, r0⟩ := trodAll_cons hA
  obtain ⟨v1, vs1, d1, ds1, p1, q1, rfl, rfl, rfl, h1, r1⟩ := trodAll_cons r0
  obtain ⟨rfl, rfl, rfl⟩ := trodAll_nil r1
  obtain rfl : args = #[v0, v1] := by cases args; simp_all
  obtain ⟨rfl, rfl⟩ := trodVars_none hV
  have k0 := h0
  have lt0 : ∀ x ∈ p0, x.block < W.heap.size := by obtain ⟨m, hm⟩ := k0; exact DataW.trod_lt m _ _ _ hm
  have ok0 := hval 0 24 v0 rfl rfl
  have k1 := h1
  have lt1 : ∀ x ∈ p1, x.block < W.heap.size := by obtain ⟨m, hm⟩ := k1; exact DataW.trod_lt m _ _ _ hm
  have ok1 := hval 1 24 v1 rfl rfl
  obtain ⟨a0, a1, a2, a3, rfl, ha0, ha1, ha2, ha3⟩ := num_open ok0 k0
  obtain ⟨b0, b1, b2, b3, rfl, hb0, hb1, hb2, hb3⟩ := num_open ok1 k1
  clear hA0 hval0
  refine (back_any a0 a1 a2 a3 b0 b1 b2 b3 ha0 ha1 ha2 ha3 hb0 hb1 hb2 hb3 W).mono fun e W' ⟨he, bel⟩ => ?_
  subst he
  exact ⟨_, rfl, _, _, _, [], _, [], hW', trodAll_mk1 (shut_bool Try.underlying4 _), (trodAll_cons_mk (Below.trod rowLaid (by kernel_rfl) (of_decide_eq_true (by kernel_rfl)) k0 bel lt0) (trodAll_cons_mk (Below.trod rowLaid (by kernel_rfl) (of_decide_eq_true (by kernel_rfl)) k1 bel lt1) trodAll_mk0)), rfl, bel.frame _, fun h => by cases h⟩
theorem over : Rows.wordsBackRow.holds Try.pinned (OpenSpec.ofChange Rows.wordsBackSpec) :=
  OpenClaim.holds_of_wide 6 Try.f6 rfl rfl rfl rfl rfl rfl rfl ⟨rfl, rfl, rfl, rfl, rfl⟩ rfl rfl rfl rfl rfl (by kernel_rfl) Try.func6 (by kernel_rfl)
    (of_decide_eq_true (by kernel_rfl)) (by unfold Func.isWrapper; first | (rw [if_pos (by decide +kernel)]; kernel_rfl) | (rw [if_neg (by decide +kernel)]; exact ⟨rfl, rfl⟩))
    (fun os started H enc _ => lifted os started H enc)
theorem proved : Rows.WordsBackSaid := over
end wordsBack
#print axioms wordsBack.proved
end Go.Proofs.Ytcbaoppbdhelpaa
