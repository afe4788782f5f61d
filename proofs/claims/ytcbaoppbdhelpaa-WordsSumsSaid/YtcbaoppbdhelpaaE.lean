import Derived.Test.YtcbaoppbdhelpaaA
namespace Go.Proofs.Ytcbaoppbdhelpaa
open Go.RowKit Go.Proofs Go.Proofs.MyK
set_option linter.unusedSimpArgs false
set_option linter.unusedVariables false

def rlessB (a0 a1 a2 a3 b0 b1 b2 b3 : Int) : Bool := if a3 = b3 then (if a2 = b2 then (if a1 = b1 then (if a0 = b0 then false else decide (a0 < b0)) else decide (a1 < b1)) else decide (a2 < b2)) else decide (a3 < b3)
set_option maxHeartbeats 4000000 in
theorem rless_calls (a0 a1 a2 a3 b0 b1 b2 b3 : Int) (w : World) :
    Calls Try.prog 17 #[.agg #[.int .u64 a0, .int .u64 a1, .int .u64 a2, .int .u64 a3], .agg #[.int .u64 b0, .int .u64 b1, .int .u64 b2, .int .u64 b3]] w fun e w' => e = .returned (.bool (rlessB a0 a1 a2 a3 b0 b1 b2 b3)) ∧ Below w.heap.size w w' := by
  by_cases h3 : a3 = b3
  · by_cases h2 : a2 = b2
    · by_cases h1 : a1 = b1
      · by_cases h0 : a0 = b0
        · skip
          have HD : Hid (rlessB a0 a1 a2 a3 b0 b1 b2 b3 = false) := by unfold Hid; simp [rlessB, h3, h2, h1, h0]
          have e3 : (a3 != b3) = false := bne_eq_false_iff_eq.mpr h3
          have e2 : (a2 != b2) = false := bne_eq_false_iff_eq.mpr h2
          have e1 : (a1 != b1) = false := bne_eq_false_iff_eq.mpr h1
          have e0 : (a0 != b0) = false := bne_eq_false_iff_eq.mpr h0
          clear h3 h2 h1 h0
          go_enter Try.func17, Try.ntmps17
          go_wp2_with fail
          refine wp_loop_rounds 5 ?_
          rw [rounds_succ]
          go_wp2_with fail
          refine wp_region_sd mixed (by kernel_rfl) ?_
          repeat (refine wpStill_step (fun K hK => ?_); go_simp; (try go_bits); refine hK _ ?_; clear hK K)
          refine wpStill_nil ?_
          go_wp2_with fail
          rw [rounds_succ]
          go_wp2_with fail
          refine wp_region_sd mixed (by kernel_rfl) ?_
          repeat (refine wpStill_step (fun K hK => ?_); go_simp; (try go_bits); refine hK _ ?_; clear hK K)
          refine wpStill_nil ?_
          go_wp2_with fail
          rw [rounds_succ]
          go_wp2_with fail
          refine wp_region_sd mixed (by kernel_rfl) ?_
          repeat (refine wpStill_step (fun K hK => ?_); go_simp; (try go_bits); refine hK _ ?_; clear hK K)
          refine wpStill_nil ?_
          go_wp2_with fail
          rw [rounds_succ]
          go_wp2_with fail
          refine wp_region_sd mixed (by kernel_rfl) ?_
          repeat (refine wpStill_step (fun K hK => ?_); go_simp; (try go_bits); refine hK _ ?_; clear hK K)
          refine wpStill_nil ?_
          go_wp2_with fail
          rw [rounds_succ]
          go_wp2_with fail
          go_ret
          refine ⟨(congrArg (fun b => Ending.returned (.bool b)) HD.out).symm, ?_⟩
          repeat (first | exact Below.refl _ _ | refine bel_drew ?_ | refine bel_alloc ?_ _)
        · skip
          have HD : Hid (rlessB a0 a1 a2 a3 b0 b1 b2 b3 = decide (a0 < b0)) := by unfold Hid; simp [rlessB, h3, h2, h1, h0]
          have e3 : (a3 != b3) = false := bne_eq_false_iff_eq.mpr h3
          have e2 : (a2 != b2) = false := bne_eq_false_iff_eq.mpr h2
          have e1 : (a1 != b1) = false := bne_eq_false_iff_eq.mpr h1
          have e0 : (a0 != b0) = true := bne_iff_ne.mpr h0
          clear h3 h2 h1 h0
          go_enter Try.func17, Try.ntmps17
          go_wp2_with fail
          refine wp_loop_rounds 5 ?_
          rw [rounds_succ]
          go_wp2_with fail
          refine wp_region_sd mixed (by kernel_rfl) ?_
          repeat (refine wpStill_step (fun K hK => ?_); go_simp; (try go_bits); refine hK _ ?_; clear hK K)
          refine wpStill_nil ?_
          go_wp2_with fail
          rw [rounds_succ]
          go_wp2_with fail
          refine wp_region_sd mixed (by kernel_rfl) ?_
          repeat (refine wpStill_step (fun K hK => ?_); go_simp; (try go_bits); refine hK _ ?_; clear hK K)
          refine wpStill_nil ?_
          go_wp2_with fail
          rw [rounds_succ]
          go_wp2_with fail
          refine wp_region_sd mixed (by kernel_rfl) ?_
          repeat (refine wpStill_step (fun K hK => ?_); go_simp; (try go_bits); refine hK _ ?_; clear hK K)
          refine wpStill_nil ?_
          go_wp2_with fail
          rw [rounds_succ]
          go_wp2_with fail
          refine wp_region_sd mixed (by kernel_rfl) ?_
          repeat (refine wpStill_step (fun K hK => ?_); go_simp; (try go_bits); refine hK _ ?_; clear hK K)
          refine wpStill_nil ?_
          go_wp2_with fail
          refine wp_region_sd mixed (by kernel_rfl) ?_
          repeat (refine wpStill_step (fun K hK => ?_); go_simp; (try go_bits); refine hK _ ?_; clear hK K)
          refine wpStill_nil ?_
          go_wp2_with fail
          go_ret
          refine ⟨(congrArg (fun b => Ending.returned (.bool b)) HD.out).symm, ?_⟩
          repeat (first | exact Below.refl _ _ | refine bel_drew ?_ | refine bel_alloc ?_ _)
      · skip
        have HD : Hid (rlessB a0 a1 a2 a3 b0 b1 b2 b3 = decide (a1 < b1)) := by unfold Hid; simp [rlessB, h3, h2, h1]
        have e3 : (a3 != b3) = false := bne_eq_false_iff_eq.mpr h3
        have e2 : (a2 != b2) = false := bne_eq_false_iff_eq.mpr h2
        have e1 : (a1 != b1) = true := bne_iff_ne.mpr h1
        clear h3 h2 h1
        go_enter Try.func17, Try.ntmps17
        go_wp2_with fail
        refine wp_loop_rounds 5 ?_
        rw [rounds_succ]
        go_wp2_with fail
        refine wp_region_sd mixed (by kernel_rfl) ?_
        repeat (refine wpStill_step (fun K hK => ?_); go_simp; (try go_bits); refine hK _ ?_; clear hK K)
        refine wpStill_nil ?_
        go_wp2_with fail
        rw [rounds_succ]
        go_wp2_with fail
        refine wp_region_sd mixed (by kernel_rfl) ?_
        repeat (refine wpStill_step (fun K hK => ?_); go_simp; (try go_bits); refine hK _ ?_; clear hK K)
        refine wpStill_nil ?_
        go_wp2_with fail
        rw [rounds_succ]
        go_wp2_with fail
        refine wp_region_sd mixed (by kernel_rfl) ?_
        repeat (refine wpStill_step (fun K hK => ?_); go_simp; (try go_bits); refine hK _ ?_; clear hK K)
        refine wpStill_nil ?_
        go_wp2_with fail
        refine wp_region_sd mixed (by kernel_rfl) ?_
        repeat (refine wpStill_step (fun K hK => ?_); go_simp; (try go_bits); refine hK _ ?_; clear hK K)
        refine wpStill_nil ?_
        go_wp2_with fail
        go_ret
        refine ⟨(congrArg (fun b => Ending.returned (.bool b)) HD.out).symm, ?_⟩
        repeat (first | exact Below.refl _ _ | refine bel_drew ?_ | refine bel_alloc ?_ _)
    · skip
      have HD : Hid (rlessB a0 a1 a2 a3 b0 b1 b2 b3 = decide (a2 < b2)) := by unfold Hid; simp [rlessB, h3, h2]
      have e3 : (a3 != b3) = false := bne_eq_false_iff_eq.mpr h3
      have e2 : (a2 != b2) = true := bne_iff_ne.mpr h2
      clear h3 h2
      go_enter Try.func17, Try.ntmps17
      go_wp2_with fail
      refine wp_loop_rounds 5 ?_
      rw [rounds_succ]
      go_wp2_with fail
      refine wp_region_sd mixed (by kernel_rfl) ?_
      repeat (refine wpStill_step (fun K hK => ?_); go_simp; (try go_bits); refine hK _ ?_; clear hK K)
      refine wpStill_nil ?_
      go_wp2_with fail
      rw [rounds_succ]
      go_wp2_with fail
      refine wp_region_sd mixed (by kernel_rfl) ?_
      repeat (refine wpStill_step (fun K hK => ?_); go_simp; (try go_bits); refine hK _ ?_; clear hK K)
      refine wpStill_nil ?_
      go_wp2_with fail
      refine wp_region_sd mixed (by kernel_rfl) ?_
      repeat (refine wpStill_step (fun K hK => ?_); go_simp; (try go_bits); refine hK _ ?_; clear hK K)
      refine wpStill_nil ?_
      go_wp2_with fail
      go_ret
      refine ⟨(congrArg (fun b => Ending.returned (.bool b)) HD.out).symm, ?_⟩
      repeat (first | exact Below.refl _ _ | refine bel_drew ?_ | refine bel_alloc ?_ _)
  · skip
    have HD : Hid (rlessB a0 a1 a2 a3 b0 b1 b2 b3 = decide (a3 < b3)) := by unfold Hid; simp [rlessB, h3]
    have e3 : (a3 != b3) = true := bne_iff_ne.mpr h3
    clear h3
    go_enter Try.func17, Try.ntmps17
    go_wp2_with fail
    refine wp_loop_rounds 5 ?_
    rw [rounds_succ]
    go_wp2_with fail
    refine wp_region_sd mixed (by kernel_rfl) ?_
    repeat (refine wpStill_step (fun K hK => ?_); go_simp; (try go_bits); refine hK _ ?_; clear hK K)
    refine wpStill_nil ?_
    go_wp2_with fail
    refine wp_region_sd mixed (by kernel_rfl) ?_
    repeat (refine wpStill_step (fun K hK => ?_); go_simp; (try go_bits); refine hK _ ?_; clear hK K)
    refine wpStill_nil ?_
    go_wp2_with fail
    go_ret
    refine ⟨(congrArg (fun b => Ending.returned (.bool b)) HD.out).symm, ?_⟩
    repeat (first | exact Below.refl _ _ | refine bel_drew ?_ | refine bel_alloc ?_ _)

end Go.Proofs.Ytcbaoppbdhelpaa
