import Derived.Test.YtcbaoppbdhelpaaB
namespace Go.Proofs.Ytcbaoppbdhelpaa
open Go.RowKit Go.Proofs Go.Proofs.MyK
set_option linter.unusedSimpArgs false
set_option linter.unusedVariables false


set_option maxHeartbeats 8000000 in
theorem rbig_calls (b off cap : Nat) (z : Nat → Int) (hcap : 32 ≤ cap) (hcap' : cap ≤ 9223372036854775807) (hb : ∀ k, 0 ≤ z k ∧ z k < 256) (w : World) (hlt : b < w.heap.size) (hz : ∀ k, k < 32 → w.cell? ⟨b, off + k, none⟩ = some (.int .u8 (z k))) :
    Calls Try.prog 24 #[.slice (some ⟨b, off, none⟩) 32 cap] w fun e w' => e = .returned (.agg #[.int .u64 ((z 31 + 256 * z 30) + (z 29 + 256 * z 28) * 65536 + (z 27 + 256 * z 26) * 4294967296 + (z 25 + 256 * z 24) * 281474976710656), .int .u64 ((z 23 + 256 * z 22) + (z 21 + 256 * z 20) * 65536 + (z 19 + 256 * z 18) * 4294967296 + (z 17 + 256 * z 16) * 281474976710656), .int .u64 ((z 15 + 256 * z 14) + (z 13 + 256 * z 12) * 65536 + (z 11 + 256 * z 10) * 4294967296 + (z 9 + 256 * z 8) * 281474976710656), .int .u64 ((z 7 + 256 * z 6) + (z 5 + 256 * z 4) * 65536 + (z 3 + 256 * z 2) * 4294967296 + (z 1 + 256 * z 0) * 281474976710656)]) ∧ Below w.heap.size w w' := by
  have z0 := hz 0 (by omega)
  have z1 := hz 1 (by omega)
  have z2 := hz 2 (by omega)
  have z3 := hz 3 (by omega)
  have z4 := hz 4 (by omega)
  have z5 := hz 5 (by omega)
  have z6 := hz 6 (by omega)
  have z7 := hz 7 (by omega)
  have z8 := hz 8 (by omega)
  have z9 := hz 9 (by omega)
  have z10 := hz 10 (by omega)
  have z11 := hz 11 (by omega)
  have z12 := hz 12 (by omega)
  have z13 := hz 13 (by omega)
  have z14 := hz 14 (by omega)
  have z15 := hz 15 (by omega)
  have z16 := hz 16 (by omega)
  have z17 := hz 17 (by omega)
  have z18 := hz 18 (by omega)
  have z19 := hz 19 (by omega)
  have z20 := hz 20 (by omega)
  have z21 := hz 21 (by omega)
  have z22 := hz 22 (by omega)
  have z23 := hz 23 (by omega)
  have z24 := hz 24 (by omega)
  have z25 := hz 25 (by omega)
  have z26 := hz 26 (by omega)
  have z27 := hz 27 (by omega)
  have z28 := hz 28 (by omega)
  have z29 := hz 29 (by omega)
  have z30 := hz 30 (by omega)
  have z31 := hz 31 (by omega)
  obtain ⟨y0, x0⟩ := hb 0
  obtain ⟨y1, x1⟩ := hb 1
  obtain ⟨y2, x2⟩ := hb 2
  obtain ⟨y3, x3⟩ := hb 3
  obtain ⟨y4, x4⟩ := hb 4
  obtain ⟨y5, x5⟩ := hb 5
  obtain ⟨y6, x6⟩ := hb 6
  obtain ⟨y7, x7⟩ := hb 7
  obtain ⟨y8, x8⟩ := hb 8
  obtain ⟨y9, x9⟩ := hb 9
  obtain ⟨y10, x10⟩ := hb 10
  obtain ⟨y11, x11⟩ := hb 11
  obtain ⟨y12, x12⟩ := hb 12
  obtain ⟨y13, x13⟩ := hb 13
  obtain ⟨y14, x14⟩ := hb 14
  obtain ⟨y15, x15⟩ := hb 15
  obtain ⟨y16, x16⟩ := hb 16
  obtain ⟨y17, x17⟩ := hb 17
  obtain ⟨y18, x18⟩ := hb 18
  obtain ⟨y19, x19⟩ := hb 19
  obtain ⟨y20, x20⟩ := hb 20
  obtain ⟨y21, x21⟩ := hb 21
  obtain ⟨y22, x22⟩ := hb 22
  obtain ⟨y23, x23⟩ := hb 23
  obtain ⟨y24, x24⟩ := hb 24
  obtain ⟨y25, x25⟩ := hb 25
  obtain ⟨y26, x26⟩ := hb 26
  obtain ⟨y27, x27⟩ := hb 27
  obtain ⟨y28, x28⟩ := hb 28
  obtain ⟨y29, x29⟩ := hb 29
  obtain ⟨y30, x30⟩ := hb 30
  obtain ⟨y31, x31⟩ := hb 31
  clear hz
  rw [Nat.add_zero] at z0
  go_enter Try.func24, Try.ntmps24
  go_wp2_with fail
  refine wp_loop_rounds 17 ?_
  iterate 16
    rw [rounds_succ]
    go_wp2_with fail
    refine wp_region_plan 18 18 [(.h, 0), (.h, 1), (.h, 2), (.h, 3), (.h, 4), (.h, 5), (.h, 6), (.h, 7), (.h, 8), (.h, 9), (.h, 10), (.h, 11), (.h, 12), (.h, 13), (.h, 14), (.h, 15), (.h, 16), (.h, 17), (.w, 18)] mixed (by kernel_rfl) (fun dst _ _ _ _ h => by cases dst <;> exact h) ?_
    intro Q' K' hQ' hK'
    simp only [planOps_cons, planOps_nil, getD_zero, getD_succ]
    repeat (first
      | (refine seqC_h (fun K hK => ?_); go_simp; (try go_bits); refine hK _ ?_; clear hK K)
      | (refine seqC_p (v := ?_) rfl (fun w' => ?_) ?_; rotate_left; go_simp; (try go_bits); with_reducible rfl)
      | (refine seqC_e (v := ?_) rfl (fun w' hb' => ?_) ?_; rotate_left; (have hb1 := (bcell hb').1; clear hb'; go_simp; (try go_bits)); with_reducible rfl)
      | (refine seqC_w (fun K hK => ?_); go_simp; (try go_bits); refine hK _ _ ?_; clear hK K))
    refine seqC_nil (hK' _ _ ?_)
    clear hK' K' hQ' Q'
    go_wp2_with fail
  rw [rounds_succ]
  go_wp2_with (first | (go_at_call 26; refine (num_calls _ _ _ _ _ _ _ _ _ _ _ _ _ _ _ _ (by omega) (by omega) (by omega) (by omega) (by omega) (by omega) (by omega) (by omega) (by omega) (by omega) (by omega) (by omega) (by omega) (by omega) (by omega) (by omega) _).mono ?_; rintro e w1 ⟨rfl, hb1⟩; have hv := VRow.belowS (b := w.heap.size) (T := 24) (xs := [.int .u64 0, .int .u64 0, .int .u64 0, .int .u64 0]) (by repeat (first | ((with_reducible refine VRow.new' ?_ ?_); (focus (simp; done)); rfl) | (with_reducible refine VRow.alloc ?_ _) | (with_reducible refine VRow.drew ?_))) hb1) | (refine wpList_store_row rfl 24 _ _ rfl _ _ rfl rfl 24 _ hv (by kernel_rfl) (by kernel_rfl) (by simp [Value.oneCell']) ?_))
  refine bodyPost_ret (results_cell_row rfl _ _ _ 24 _ (0, 0) _ rfl (setRow_heap _ _ _ _ _ _ hv) Try.underlying24 rfl (by kernel_rfl)) rfl ⟨rfl, bel_setRow (below_S ?_ hb1) (by simp) _⟩
  repeat (first | (with_reducible exact Below.refl _ _) | (with_reducible refine bel_drew ?_) | (with_reducible refine bel_alloc ?_ _))

end Go.Proofs.Ytcbaoppbdhelpaa
