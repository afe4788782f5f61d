import Derived.Test.YtcbaoppbdhelpaaProg
import Derived.Test.YtcbaoppbdhelpaaK
import Derived.Test.YtcbaoppbdhelpaaR
namespace Go.Proofs.Ytcbaoppbdhelpaa
open Go.RowKit Go.Proofs Go.Proofs.MyK

/-- 2 to the 64. -/
def M : Int := 18446744073709551616
/-- A word. -/
def Wd (x : Int) : Prop := 0 ≤ x ∧ x < M
def sumS (x y c : Int) : Int := (x + y + c) % M
def sumC (x y c : Int) : Int := (x + y + c) / M
def difS (x y c : Int) : Int := (x - y - c) % M
def difB (x y c : Int) : Int := if x < y + c then 1 else 0
theorem sumC_bd {x y c : Int} (hx : Wd x) (hy : Wd y) (h0 : 0 ≤ c) (h1 : c ≤ 1) : 0 ≤ sumC x y c ∧ sumC x y c ≤ 1 := by
  unfold sumC Wd M at *; omega
theorem difB_bd (x y c : Int) : 0 ≤ difB x y c ∧ difB x y c ≤ 1 := by
  unfold difB; split <;> omega
theorem sumS_wd (x y c : Int) : Wd (sumS x y c) := by unfold sumS Wd M; omega
theorem difS_wd (x y c : Int) : Wd (difS x y c) := by unfold difS Wd M; omega

def sub64E : Array Value → Sem Value := fun args => do
  let (x, y, b) ← Extern.MathBitsCarry.three "Sub64" args
  pure (Extern.MathBitsCarry.pair ((x + Extern.MathBitsCarry.m64 - y - b) % Extern.MathBitsCarry.m64) (if x < y + b then 1 else 0))
theorem run_sub64 (x y b : Nat) (hb : b ≤ 1) (w : World) : (sub64E #[.int .u64 x, .int .u64 y, .int .u64 b]).run Try.prog w =
    .ok (.tuple #[.int .u64 (((x + 18446744073709551616 - y - b) % 18446744073709551616 : Nat) : Int), .int .u64 ((if x < y + b then 1 else 0 : Nat) : Int)]) w := by
  have : b = 0 ∨ b = 1 := by omega
  rcases this with rfl | rfl <;> rfl

theorem add64_run (x y c : Int) (hx : Wd x) (hy : Wd y) (hc : 0 ≤ c ∧ c ≤ 1) (w : World) :
    (callFunc 25 #[.int .u64 x, .int .u64 y, .int .u64 c]).run Try.prog w = .ok (.value (.tuple #[.int .u64 (sumS x y c), .int .u64 (sumC x y c)])) w := by
  rw [run_callFunc_extern Try.func25 (by kernel_rfl) (by kernel_rfl) (by kernel_rfl) (e := add64Entry) (by kernel_rfl), run_add64 x y c hx.1 hy.1 hc.1 hc.2]
  rfl
theorem sub64_run (x y c : Int) (hx : Wd x) (hy : Wd y) (hc : 0 ≤ c ∧ c ≤ 1) (w : World) :
    (callFunc 27 #[.int .u64 x, .int .u64 y, .int .u64 c]).run Try.prog w = .ok (.value (.tuple #[.int .u64 (difS x y c), .int .u64 (difB x y c)])) w := by
  obtain ⟨hx0, hx1⟩ := hx; obtain ⟨hy0, hy1⟩ := hy; obtain ⟨hc0, hc1⟩ := hc
  obtain ⟨x, rfl⟩ := Int.eq_ofNat_of_zero_le hx0
  obtain ⟨y, rfl⟩ := Int.eq_ofNat_of_zero_le hy0
  obtain ⟨c, rfl⟩ := Int.eq_ofNat_of_zero_le hc0
  rw [run_callFunc_extern Try.func27 (by kernel_rfl) (by kernel_rfl) (by kernel_rfl) (e := sub64E) (by kernel_rfl), run_sub64 x y c (by omega)]
  have e1 : (((x + 18446744073709551616 - y - c) % 18446744073709551616 : Nat) : Int) = difS x y c := by unfold difS M at *; omega
  have e2 : ((if x < y + c then 1 else 0 : Nat) : Int) = difB x y c := by unfold difB; split <;> split <;> omega
  rw [e1, e2]
  rfl

theorem mixed : Try.prog.follows .mixedOrders = true := by kernel_rfl

set_option maxHeartbeats 2000000 in
theorem add_calls (a0 a1 a2 a3 b0 b1 b2 b3 : Int) (ha0 : Wd a0) (ha1 : Wd a1) (ha2 : Wd a2) (ha3 : Wd a3) (hb0 : Wd b0) (hb1 : Wd b1) (hb2 : Wd b2) (hb3 : Wd b3) (w : World) :
    Calls Try.prog 13 #[.agg #[.int .u64 a0, .int .u64 a1, .int .u64 a2, .int .u64 a3], .agg #[.int .u64 b0, .int .u64 b1, .int .u64 b2, .int .u64 b3]] w fun e w' =>
      e = .returned (.tuple #[.agg #[.int .u64 (sumS a0 b0 0), .int .u64 (sumS a1 b1 (sumC a0 b0 0)), .int .u64 (sumS a2 b2 (sumC a1 b1 (sumC a0 b0 0))), .int .u64 (sumS a3 b3 (sumC a2 b2 (sumC a1 b1 (sumC a0 b0 0))))],
        .int .u64 (sumC a3 b3 (sumC a2 b2 (sumC a1 b1 (sumC a0 b0 0))))]) ∧ Below w.heap.size w w' := by
  have k0 := sumC_bd ha0 hb0 (c := 0) (by omega) (by omega)
  have k1 := sumC_bd ha1 hb1 k0.1 k0.2
  have k2 := sumC_bd ha2 hb2 k1.1 k1.2
  have r0 := add64_run a0 b0 0 ha0 hb0 (by omega)
  have r1 := add64_run a1 b1 _ ha1 hb1 k0
  have r2 := add64_run a2 b2 _ ha2 hb2 k1
  have r3 := add64_run a3 b3 _ ha3 hb3 k2
  clear k0 k1 k2 ha0 ha1 ha2 ha3 hb0 hb1 hb2 hb3
  go_enter Try.func13, Try.ntmps13
  go_wp2_with fail
  refine wp_loop_rounds 5 ?_
  iterate 4
    rw [rounds_succ]
    go_wp2_with fail
    refine wp_region_plan 8 8 [(.p, 0), (.h, 1), (.h, 2), (.h, 3), (.h, 4), (.h, 5), (.h, 6), (.h, 7), (.w, 8), (.p, 9), (.p, 10), (.p, 11), (.p, 12), (.w, 13), (.p, 14)] mixed (by kernel_rfl) (fun dst _ _ _ _ h => by cases dst <;> exact h) ?_
    intro Q' K' hQ' hK'
    simp only [planOps_cons, planOps_nil, getD_zero, getD_succ]
    repeat (first
      | (refine seqC_h (fun K hK => ?_); go_simp; refine hK _ ?_; clear hK K)
      | (refine seqC_p (v := ?_) rfl (fun w' => ?_) ?_; rotate_left; go_simp; with_reducible rfl)
      | (refine seqC_e (v := ?_) rfl (fun w' hb' => ?_) ?_; rotate_left; (have hb1 := (bcell hb').1; clear hb'; go_simp); with_reducible rfl)
      | (refine seqC_w (fun K hK => ?_); go_simp; refine hK _ _ ?_; clear hK K))
    refine seqC_nil (hK' _ _ ?_)
    clear hK' K' hQ' Q'
    go_wp2_with fail
  rw [rounds_succ]
  go_wp2_with fail
  simp [bodyPost, results, Try.results13, go_sem]
  repeat (first | exact Below.refl _ _ | refine bel_drew ?_ | refine bel_alloc ?_ _)

set_option maxHeartbeats 2000000 in
theorem sub_calls (a0 a1 a2 a3 b0 b1 b2 b3 : Int) (ha0 : Wd a0) (ha1 : Wd a1) (ha2 : Wd a2) (ha3 : Wd a3) (hb0 : Wd b0) (hb1 : Wd b1) (hb2 : Wd b2) (hb3 : Wd b3) (w : World) :
    Calls Try.prog 15 #[.agg #[.int .u64 a0, .int .u64 a1, .int .u64 a2, .int .u64 a3], .agg #[.int .u64 b0, .int .u64 b1, .int .u64 b2, .int .u64 b3]] w fun e w' =>
      e = .returned (.tuple #[.agg #[.int .u64 (difS a0 b0 0), .int .u64 (difS a1 b1 (difB a0 b0 0)), .int .u64 (difS a2 b2 (difB a1 b1 (difB a0 b0 0))), .int .u64 (difS a3 b3 (difB a2 b2 (difB a1 b1 (difB a0 b0 0))))],
        .int .u64 (difB a3 b3 (difB a2 b2 (difB a1 b1 (difB a0 b0 0))))]) ∧ Below w.heap.size w w' := by
  have r0 := sub64_run a0 b0 0 ha0 hb0 (by omega)
  have r1 := sub64_run a1 b1 _ ha1 hb1 (difB_bd a0 b0 0)
  have r2 := sub64_run a2 b2 _ ha2 hb2 (difB_bd a1 b1 (difB a0 b0 0))
  have r3 := sub64_run a3 b3 _ ha3 hb3 (difB_bd a2 b2 (difB a1 b1 (difB a0 b0 0)))
  clear ha0 ha1 ha2 ha3 hb0 hb1 hb2 hb3
  go_enter Try.func15, Try.ntmps15
  go_wp2_with fail
  refine wp_loop_rounds 5 ?_
  iterate 4
    rw [rounds_succ]
    go_wp2_with fail
    refine wp_region_plan 8 8 [(.p, 0), (.h, 1), (.h, 2), (.h, 3), (.h, 4), (.h, 5), (.h, 6), (.h, 7), (.w, 8), (.p, 9), (.p, 10), (.p, 11), (.p, 12), (.w, 13), (.p, 14)] mixed (by kernel_rfl) (fun dst _ _ _ _ h => by cases dst <;> exact h) ?_
    intro Q' K' hQ' hK'
    simp only [planOps_cons, planOps_nil, getD_zero, getD_succ]
    repeat (first
      | (refine seqC_h (fun K hK => ?_); go_simp; refine hK _ ?_; clear hK K)
      | (refine seqC_p (v := ?_) rfl (fun w' => ?_) ?_; rotate_left; go_simp; with_reducible rfl)
      | (refine seqC_e (v := ?_) rfl (fun w' hb' => ?_) ?_; rotate_left; (have hb1 := (bcell hb').1; clear hb'; go_simp); with_reducible rfl)
      | (refine seqC_w (fun K hK => ?_); go_simp; refine hK _ _ ?_; clear hK K))
    refine seqC_nil (hK' _ _ ?_)
    clear hK' K' hQ' Q'
    go_wp2_with fail
  rw [rounds_succ]
  go_wp2_with fail
  simp [bodyPost, results, Try.results15, go_sem]
  repeat (first | exact Below.refl _ _ | refine bel_drew ?_ | refine bel_alloc ?_ _)

def lessB (a0 a1 a2 a3 b0 b1 b2 b3 : Int) : Int := difB a3 b3 (difB a2 b2 (difB a1 b1 (difB a0 b0 0)))
set_option maxHeartbeats 400000 in
theorem less_calls (a0 a1 a2 a3 b0 b1 b2 b3 : Int) (ha0 : Wd a0) (ha1 : Wd a1) (ha2 : Wd a2) (ha3 : Wd a3) (hb0 : Wd b0) (hb1 : Wd b1) (hb2 : Wd b2) (hb3 : Wd b3) (w : World) :
    Calls Try.prog 9 #[.agg #[.int .u64 a0, .int .u64 a1, .int .u64 a2, .int .u64 a3], .agg #[.int .u64 b0, .int .u64 b1, .int .u64 b2, .int .u64 b3]] w fun e w' =>
      e = .returned (.bool (lessB a0 a1 a2 a3 b0 b1 b2 b3 == 1)) ∧ Below w.heap.size w w' := by
  go_enter Try.func9, Try.ntmps9
  go_wp2_with (go_at_call 15; refine (sub_calls a0 a1 a2 a3 b0 b1 b2 b3 ha0 ha1 ha2 ha3 hb0 hb1 hb2 hb3 _).mono ?_; rintro e w1 ⟨rfl, hb⟩)
  go_ret
  refine ⟨rfl, ?_⟩
  refine bel_alloc (below_S ?_ hb) _
  repeat (first | exact Below.refl _ _ | refine bel_drew ?_ | refine bel_alloc ?_ _)

def pickM (x : Int) : Int := IntKind.u64.wrap (-bits BinOp.and IntKind.u64 x 1)
def pickW (x a b : Int) : Int := bits BinOp.or IntKind.u64 (bits BinOp.and IntKind.u64 a (IntKind.u64.wrap (-bits BinOp.and IntKind.u64 x 1))) (bits BinOp.andNot IntKind.u64 b (IntKind.u64.wrap (-bits BinOp.and IntKind.u64 x 1)))
set_option maxHeartbeats 2000000 in
theorem pick_calls (x a0 a1 a2 a3 b0 b1 b2 b3 : Int) (w : World) :
    Calls Try.prog 11 #[.int .u64 x, .agg #[.int .u64 a0, .int .u64 a1, .int .u64 a2, .int .u64 a3], .agg #[.int .u64 b0, .int .u64 b1, .int .u64 b2, .int .u64 b3]] w fun e w' =>
      e = .returned (.agg #[.int .u64 (pickW x a0 b0), .int .u64 (pickW x a1 b1), .int .u64 (pickW x a2 b2), .int .u64 (pickW x a3 b3)]) ∧ Below w.heap.size w w' := by
  go_enter Try.func11, Try.ntmps11
  go_wp2_with fail
  refine wp_loop_rounds 5 ?_
  iterate 4
    rw [rounds_succ]
    go_wp2_with fail
    refine wp_region_plan 13 13 [(.h, 0), (.h, 1), (.h, 2), (.h, 3), (.h, 4), (.h, 5), (.h, 6), (.h, 7), (.h, 8), (.h, 9), (.h, 10), (.h, 11), (.h, 12), (.w, 13)] mixed (by kernel_rfl) (fun dst _ _ _ _ h => by cases dst <;> exact h) ?_
    intro Q' K' hQ' hK'
    simp only [planOps_cons, planOps_nil, getD_zero, getD_succ]
    repeat (first
      | (refine seqC_h (fun K hK => ?_); go_simp; refine hK _ ?_; clear hK K)
      | (refine seqC_p (v := ?_) rfl (fun w' => ?_) ?_; rotate_left; go_simp; with_reducible rfl)
      | (refine seqC_e (v := ?_) rfl (fun w' hb' => ?_) ?_; rotate_left; (have hb1 := (bcell hb').1; clear hb'; go_simp); with_reducible rfl)
      | (refine seqC_w (fun K hK => ?_); go_simp; refine hK _ _ ?_; clear hK K))
    refine seqC_nil (hK' _ _ ?_)
    clear hK' K' hQ' Q'
    go_wp2_with fail
  rw [rounds_succ]
  go_wp2_with fail
  simp [bodyPost, results, Try.results11, go_sem, pickW]
  repeat (first | exact Below.refl _ _ | refine bel_drew ?_ | refine bel_alloc ?_ _)

end Go.Proofs.Ytcbaoppbdhelpaa
