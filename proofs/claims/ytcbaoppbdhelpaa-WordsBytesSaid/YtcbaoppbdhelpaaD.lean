import Derived.Test.YtcbaoppbdhelpaaA
namespace Go.Proofs.Ytcbaoppbdhelpaa
open Go.RowKit Go.Proofs Go.Proofs.MyK
set_option linter.unusedSimpArgs false
set_option linter.unusedVariables false

def bgStep (x z : Int) : Int := bits BinOp.or .u64 (IntKind.u64.wrap (x * 256)) (IntKind.u64.wrap z)
def big8 (z0 z1 z2 z3 z4 z5 z6 z7 : Int) : Int := bgStep (bgStep (bgStep (bgStep (bgStep (bgStep (bgStep (bits BinOp.or .u64 0 (IntKind.u64.wrap z0)) z1) z2) z3) z4) z5) z6) z7
def ltStep (x z m : Int) : Int := bits BinOp.or .u64 x (IntKind.u64.wrap (IntKind.u64.wrap z * m))
def lit8 (z0 z1 z2 z3 z4 z5 z6 z7 : Int) : Int := ltStep (ltStep (ltStep (ltStep (ltStep (ltStep (ltStep (bits BinOp.or .u64 0 (IntKind.u64.wrap (IntKind.u64.wrap z0))) z1 256) z2 65536) z3 16777216) z4 4294967296) z5 1099511627776) z6 281474976710656) z7 72057594037927936

set_option maxHeartbeats 8000000 in
theorem big_calls (b off cap : Nat) (z : Nat → Int) (hcap : 32 ≤ cap) (hcap' : cap ≤ 9223372036854775807) (w : World) (hlt : b < w.heap.size) (hz : ∀ k, k < 32 → w.cell? ⟨b, off + k, none⟩ = some (.int .u8 (z k))) :
    Calls Try.prog 21 #[.slice (some ⟨b, off, none⟩) 32 cap] w fun e w' => e = .returned (.tuple #[.agg #[.int .u64 (big8 (z 24) (z 25) (z 26) (z 27) (z 28) (z 29) (z 30) (z 31)), .int .u64 (big8 (z 16) (z 17) (z 18) (z 19) (z 20) (z 21) (z 22) (z 23)), .int .u64 (big8 (z 8) (z 9) (z 10) (z 11) (z 12) (z 13) (z 14) (z 15)), .int .u64 (big8 (z 0) (z 1) (z 2) (z 3) (z 4) (z 5) (z 6) (z 7))], .bool true]) ∧ Below w.heap.size w w' := by
  have z0 := hz 0 (by omega)
  have z1 := hz 1 (by omega)
  have z2 := hz 2 (by omega)
  have z3 := hz 3 (by omega)
  have z4 := hz 4 (by omega)
  have z5 := hz 5 (by omega)
  have z6 := hz 6 (by omega)
  have z7 := hz 7 (by omega)
  have z8 := hz 8 (by omega)
  have z9 := hz 9 (by omega)
  have z10 := hz 10 (by omega)
  have z11 := hz 11 (by omega)
  have z12 := hz 12 (by omega)
  have z13 := hz 13 (by omega)
  have z14 := hz 14 (by omega)
  have z15 := hz 15 (by omega)
  have z16 := hz 16 (by omega)
  have z17 := hz 17 (by omega)
  have z18 := hz 18 (by omega)
  have z19 := hz 19 (by omega)
  have z20 := hz 20 (by omega)
  have z21 := hz 21 (by omega)
  have z22 := hz 22 (by omega)
  have z23 := hz 23 (by omega)
  have z24 := hz 24 (by omega)
  have z25 := hz 25 (by omega)
  have z26 := hz 26 (by omega)
  have z27 := hz 27 (by omega)
  have z28 := hz 28 (by omega)
  have z29 := hz 29 (by omega)
  have z30 := hz 30 (by omega)
  have z31 := hz 31 (by omega)
  clear hz
  rw [Nat.add_zero] at z0
  go_enter Try.func21, Try.ntmps21
  go_wp2_with fail
  refine wp_loop_rounds 5 ?_
  iterate 4
    rw [rounds_succ]
    go_wp2_with fail
    refine wp_loop_rounds 9 ?_
    iterate 9
      rw [rounds_succ]
      go_wp2_with fail
  rw [rounds_succ]
  go_wp2_with fail
  simp [bodyPost, results, Try.results21, go_sem, big8, bgStep, lit8, ltStep]
  repeat (first | exact Below.refl _ _ | refine bel_drew ?_ | refine bel_alloc ?_ _)

set_option maxHeartbeats 400000 in
theorem big_bad (v : Option Addr) (n cap : Nat) (hn : ((n : Int) != 32) = true) (w : World) :
    Calls Try.prog 21 #[.slice v n cap] w fun e w' => e = .returned (.tuple #[.agg #[.int .u64 0, .int .u64 0, .int .u64 0, .int .u64 0], .bool false]) ∧ Below w.heap.size w w' := by
  go_enter Try.func21, Try.ntmps21
  go_wp2_with fail
  simp [bodyPost, results, Try.results21, go_sem]
  repeat (first | exact Below.refl _ _ | refine bel_drew ?_ | refine bel_alloc ?_ _)

set_option maxHeartbeats 8000000 in
theorem little_calls (b off cap : Nat) (z : Nat → Int) (hcap : 32 ≤ cap) (hcap' : cap ≤ 9223372036854775807) (w : World) (hlt : b < w.heap.size) (hz : ∀ k, k < 32 → w.cell? ⟨b, off + k, none⟩ = some (.int .u8 (z k))) :
    Calls Try.prog 22 #[.slice (some ⟨b, off, none⟩) 32 cap] w fun e w' => e = .returned (.tuple #[.agg #[.int .u64 (lit8 (z 0) (z 1) (z 2) (z 3) (z 4) (z 5) (z 6) (z 7)), .int .u64 (lit8 (z 8) (z 9) (z 10) (z 11) (z 12) (z 13) (z 14) (z 15)), .int .u64 (lit8 (z 16) (z 17) (z 18) (z 19) (z 20) (z 21) (z 22) (z 23)), .int .u64 (lit8 (z 24) (z 25) (z 26) (z 27) (z 28) (z 29) (z 30) (z 31))], .bool true]) ∧ Below w.heap.size w w' := by
  have z0 := hz 0 (by omega)
  have z1 := hz 1 (by omega)
  have z2 := hz 2 (by omega)
  have z3 := hz 3 (by omega)
  have z4 := hz 4 (by omega)
  have z5 := hz 5 (by omega)
  have z6 := hz 6 (by omega)
  have z7 := hz 7 (by omega)
  have z8 := hz 8 (by omega)
  have z9 := hz 9 (by omega)
  have z10 := hz 10 (by omega)
  have z11 := hz 11 (by omega)
  have z12 := hz 12 (by omega)
  have z13 := hz 13 (by omega)
  have z14 := hz 14 (by omega)
  have z15 := hz 15 (by omega)
  have z16 := hz 16 (by omega)
  have z17 := hz 17 (by omega)
  have z18 := hz 18 (by omega)
  have z19 := hz 19 (by omega)
  have z20 := hz 20 (by omega)
  have z21 := hz 21 (by omega)
  have z22 := hz 22 (by omega)
  have z23 := hz 23 (by omega)
  have z24 := hz 24 (by omega)
  have z25 := hz 25 (by omega)
  have z26 := hz 26 (by omega)
  have z27 := hz 27 (by omega)
  have z28 := hz 28 (by omega)
  have z29 := hz 29 (by omega)
  have z30 := hz 30 (by omega)
  have z31 := hz 31 (by omega)
  clear hz
  rw [Nat.add_zero] at z0
  go_enter Try.func22, Try.ntmps22
  go_wp2_with fail
  refine wp_loop_rounds 5 ?_
  iterate 4
    rw [rounds_succ]
    go_wp2_with fail
    refine wp_loop_rounds 9 ?_
    iterate 8
      rw [rounds_succ]
      go_wp2_with fail
      refine wp_region_plan 10 10 [(.h, 0), (.h, 1), (.h, 2), (.h, 3), (.h, 4), (.h, 5), (.h, 6), (.h, 7), (.h, 8), (.h, 9), (.w, 10)] mixed (by kernel_rfl) (fun dst _ _ _ _ h => by cases dst <;> exact h) ?_
      intro Q' K' hQ' hK'
      simp only [planOps_cons, planOps_nil, getD_zero, getD_succ]
      repeat (first
        | (refine seqC_h (fun K hK => ?_); go_simp; (try go_bits); refine hK _ ?_; clear hK K)
        | (refine seqC_p (v := ?_) rfl (fun w' => ?_) ?_; rotate_left; go_simp; (try go_bits); with_reducible rfl)
        | (refine seqC_e (v := ?_) rfl (fun w' hb' => ?_) ?_; rotate_left; (have hb1 := (bcell hb').1; clear hb'; go_simp; (try go_bits)); with_reducible rfl)
        | (refine seqC_w (fun K hK => ?_); go_simp; (try go_bits); refine hK _ _ ?_; clear hK K))
      refine seqC_nil (hK' _ _ ?_)
      clear hK' K' hQ' Q'
      go_wp2_with fail
    rw [rounds_succ]
    go_wp2_with fail
  rw [rounds_succ]
  go_wp2_with fail
  simp [bodyPost, results, Try.results22, go_sem, big8, bgStep, lit8, ltStep]
  repeat (first | exact Below.refl _ _ | refine bel_drew ?_ | refine bel_alloc ?_ _)

set_option maxHeartbeats 400000 in
theorem little_bad (v : Option Addr) (n cap : Nat) (hn : ((n : Int) != 32) = true) (w : World) :
    Calls Try.prog 22 #[.slice v n cap] w fun e w' => e = .returned (.tuple #[.agg #[.int .u64 0, .int .u64 0, .int .u64 0, .int .u64 0], .bool false]) ∧ Below w.heap.size w w' := by
  go_enter Try.func22, Try.ntmps22
  go_wp2_with fail
  simp [bodyPost, results, Try.results22, go_sem]
  repeat (first | exact Below.refl _ _ | refine bel_drew ?_ | refine bel_alloc ?_ _)

end Go.Proofs.Ytcbaoppbdhelpaa
