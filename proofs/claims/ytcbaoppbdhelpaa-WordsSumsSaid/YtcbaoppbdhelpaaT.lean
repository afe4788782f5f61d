import Derived.Test.YtcbaoppbdhelpaaS
namespace Go.Proofs.Ytcbaoppbdhelpaa
open Go.RowKit Go.Proofs Go.Proofs.MyK
set_option linter.unusedSimpArgs false
set_option linter.unusedVariables false

set_option maxHeartbeats 4000000 in
theorem rsub_walk (a0 a1 a2 a3 b0 b1 b2 b3 : Int) (ha0 : 0 ≤ a0) (ha1 : 0 ≤ a1) (ha2 : 0 ≤ a2) (ha3 : 0 ≤ a3) (hb0 : 0 ≤ b0) (hb1 : 0 ≤ b1) (hb2 : 0 ≤ b2) (hb3 : 0 ≤ b3) (n0 n1 n2 n3 k : Int) (w : World)
    (hk0 : (run bS bC (digs a0 a1 a2 a3) (digs b0 b1 b2 b3) 16).2 = k) 
    (hnum : ∀ w, Calls Try.prog 26 #[.agg ((run bS bC (digs a0 a1 a2 a3) (digs b0 b1 b2 b3) 16).1.map (Value.int .i64)).toArray] w fun e w' => e = .returned (.agg #[.int .u64 n0, .int .u64 n1, .int .u64 n2, .int .u64 n3]) ∧ Below w.heap.size w w') :
    Calls Try.prog 16 #[.agg #[.int .u64 a0, .int .u64 a1, .int .u64 a2, .int .u64 a3], .agg #[.int .u64 b0, .int .u64 b1, .int .u64 b2, .int .u64 b3]] w fun e w' => e = .returned (.tuple #[.agg #[.int .u64 n0, .int .u64 n1, .int .u64 n2, .int .u64 n3], .int .u64 k]) ∧ Below w.heap.size w w' := by
  have hX := digs_d a0 a1 a2 a3
  have hY := digs_d b0 b1 b2 b3
  have DA := Lib.hid (fun w => digits_calls a0 a1 a2 a3 ha0 ha1 ha2 ha3 w)
  have DB := Lib.hid (fun w => digits_calls b0 b1 b2 b3 hb0 hb1 hb2 hb3 w)
  have DN := Lib.hid hnum
  clear ha0 ha1 ha2 ha3 hb0 hb1 hb2 hb3 hnum
  go_enter Try.func16, Try.ntmps16
  go_wp2_with fail
  refine wp_region_two mixed (by kernel_rfl) 11 12 13 14 6 7 29 29 (.agg #[.int .u64 a0, .int .u64 a1, .int .u64 a2, .int .u64 a3]) (.agg #[.int .i64 (dg0 a0), .int .i64 (dg1 a0), .int .i64 (dg2 a0), .int .i64 (dg3 a0), .int .i64 (dg0 a1), .int .i64 (dg1 a1), .int .i64 (dg2 a1), .int .i64 (dg3 a1), .int .i64 (dg0 a2), .int .i64 (dg1 a2), .int .i64 (dg2 a2), .int .i64 (dg3 a2), .int .i64 (dg0 a3), .int .i64 (dg1 a3), .int .i64 (dg2 a3), .int .i64 (dg3 a3)]) (.agg #[.int .u64 b0, .int .u64 b1, .int .u64 b2, .int .u64 b3]) (.agg #[.int .i64 (dg0 b0), .int .i64 (dg1 b0), .int .i64 (dg2 b0), .int .i64 (dg3 b0), .int .i64 (dg0 b1), .int .i64 (dg1 b1), .int .i64 (dg2 b1), .int .i64 (dg3 b1), .int .i64 (dg0 b2), .int .i64 (dg1 b2), .int .i64 (dg2 b2), .int .i64 (dg3 b2), .int .i64 (dg0 b3), .int .i64 (dg1 b3), .int .i64 (dg2 b3), .int .i64 (dg3 b3)]) (List.replicate 16 (.int .i64 0)) [.int .i64 (dg0 a0), .int .i64 (dg1 a0), .int .i64 (dg2 a0), .int .i64 (dg3 a0), .int .i64 (dg0 a1), .int .i64 (dg1 a1), .int .i64 (dg2 a1), .int .i64 (dg3 a1), .int .i64 (dg0 a2), .int .i64 (dg1 a2), .int .i64 (dg2 a2), .int .i64 (dg3 a2), .int .i64 (dg0 a3), .int .i64 (dg1 a3), .int .i64 (dg2 a3), .int .i64 (dg3 a3)] (List.replicate 16 (.int .i64 0)) [.int .i64 (dg0 b0), .int .i64 (dg1 b0), .int .i64 (dg2 b0), .int .i64 (dg3 b0), .int .i64 (dg0 b1), .int .i64 (dg1 b1), .int .i64 (dg2 b1), .int .i64 (dg3 b1), .int .i64 (dg0 b2), .int .i64 (dg1 b2), .int .i64 (dg2 b2), .int .i64 (dg3 b2), .int .i64 (dg0 b3), .int .i64 (dg1 b3), .int .i64 (dg2 b3), .int .i64 (dg3 b3)]
    ⟨rfl, rfl, rfl, rfl, rfl, rfl, rfl, rfl⟩ ⟨rfl, rfl, rfl, rfl, rfl, rfl, rfl, rfl⟩ (slot6_inj (by kernel_rfl)) (slot6_lt (by kernel_rfl)) (by kernel_rfl) (by kernel_rfl) (by kernel_rfl) (by kernel_rfl) (by kernel_rfl) (by kernel_rfl)
    ?l0 ?l1 ?c0 ?c1 ?z0 ?z1 rfl rfl (by kernel_rfl) rfl (by simp [Value.oneCell']) rfl rfl (by kernel_rfl) rfl (by simp [Value.oneCell']) ?fin
  case z0 => intro a w'; kernel_rfl
  case z1 => intro a w'; kernel_rfl
  case l0 =>
    intro a w' ha hb
    have hv : VRow w' w.heap.size 24 [.int .u64 a0, .int .u64 a1, .int .u64 a2, .int .u64 a3] := VRow.belowS (by repeat (first | ((with_reducible refine VRow.new' ?_ ?_); (focus (simp; done)); rfl) | (with_reducible refine VRow.alloc ?_ _) | (with_reducible refine VRow.drew ?_))) hb
    exact run_load_vrow 24 (.tmp 2) rfl w.heap.size (eval_tmp (ha 2 (slot6_ne (by kernel_rfl)))) 24 _ _ hv Try.underlying24 rfl (by kernel_rfl)
  case l1 =>
    intro a w' ha hb
    have hv : VRow w' (w.heap.size + 1) 24 [.int .u64 b0, .int .u64 b1, .int .u64 b2, .int .u64 b3] := VRow.belowS (by repeat (first | ((with_reducible refine VRow.new' ?_ ?_); (focus (simp; done)); rfl) | (with_reducible refine VRow.alloc ?_ _) | (with_reducible refine VRow.drew ?_))) hb
    exact run_load_vrow 24 (.tmp 3) rfl (w.heap.size + 1) (eval_tmp (ha 3 (slot6_ne (by kernel_rfl)))) 24 _ _ hv Try.underlying24 rfl (by kernel_rfl)
  case c0 =>
    intro a w' K ha hK
    have ev := eval_tmp ha
    go_simp
    go_at_call 10
    refine (DA.out _).mono ?_
    rintro e w1 ⟨rfl, hb1⟩
    exact hK _ hb1
  case c1 =>
    intro a w' K ha hK
    have ev := eval_tmp ha
    go_simp
    go_at_call 10
    refine (DB.out _).mono ?_
    rintro e w1 ⟨rfl, hb1⟩
    exact hK _ hb1
  case fin =>
    intro p q w1 hpq hp hq hvp hvq hbel
    simp only [Act.put, List.setIfInBounds_toArray, List.set_cons_zero, List.set_cons_succ]
    replace hvp : IRow w1 p 29 .i64 (digs a0 a1 a2 a3) := hvp
    replace hvq : IRow w1 q 29 .i64 (digs b0 b1 b2 b3) := hvq
    have hv4 : VRow w1 (w.heap.size + 1 + 1) 24 [.int .u64 0, .int .u64 0, .int .u64 0, .int .u64 0] := VRow.belowS (by repeat (first | ((with_reducible refine VRow.new' ?_ ?_); (focus (simp; done)); rfl) | (with_reducible refine VRow.alloc ?_ _) | (with_reducible refine VRow.drew ?_))) hbel
    replace hbel : Below w.heap.size w w1 := below_S (by repeat (first | (with_reducible exact Below.refl _ _) | (with_reducible refine bel_drew ?_) | (with_reducible refine bel_alloc ?_ _))) hbel
    replace hp : w.heap.size + 1 + 1 < p := by simp at hp; omega
    replace hq : w.heap.size + 1 + 1 < q := by simp at hq; omega
    clear DA DB
    go_wp2_with fail
    go_loopw [8, 9] (fun c i wr => ∃ k : Nat, k ≤ 16 ∧ i = .int .i64 k ∧ c = .int .i64 (run bS bC (digs a0 a1 a2 a3) (digs b0 b1 b2 b3) k).2 ∧ IRow wr p 29 .i64 (run bS bC (digs a0 a1 a2 a3) (digs b0 b1 b2 b3) k).1 ∧ IRow wr q 29 .i64 (digs b0 b1 b2 b3) ∧ VRow wr (w.heap.size + 1 + 1) 24 [.int .u64 0, .int .u64 0, .int .u64 0, .int .u64 0] ∧ Below w.heap.size w wr) (fun _ i _ => 16 - (intOf i).toNat)
    case atStart => exact ⟨0, by omega, rfl, rfl, hvp, hvq, hv4, hbel⟩
    clear hvp hvq hv4 hbel
    case round =>
      obtain ⟨k, hk, rfl, rfl, hvp, hvq, hv4, hbel⟩ := hrel
      by_cases hlt : k < 16
      · have c1 := hvp.cell (k := k) (by rw [run_len]; rw [hX.1]; omega)
        have c2 := hvq.cell (k := k) (by rw [hY.1]; omega)
        have f1 := hvp.frozen k
        have x1 := hX.2 k
        have y1 := hY.2 k
        have z1 := run_c (ss := bS) bC_bd hX hY k
        rw [run_get _ _ _ _ k k (Nat.le_refl _)] at c1
        have hs : run bS bC (digs a0 a1 a2 a3) (digs b0 b1 b2 b3) (k + 1) = ((run bS bC (digs a0 a1 a2 a3) (digs b0 b1 b2 b3) k).1.set k (bS ((digs a0 a1 a2 a3).getD k 0) ((digs b0 b1 b2 b3).getD k 0) (run bS bC (digs a0 a1 a2 a3) (digs b0 b1 b2 b3) k).2), bC ((digs a0 a1 a2 a3).getD k 0) ((digs b0 b1 b2 b3).getD k 0) (run bS bC (digs a0 a1 a2 a3) (digs b0 b1 b2 b3) k).2) := by
          simp only [run]; rw [run_get _ _ _ _ k k (Nat.le_refl _)]
        generalize (digs a0 a1 a2 a3).getD k 0 = x at c1 x1 hs
        generalize (digs b0 b1 b2 b3).getD k 0 = y at c2 y1 hs
        generalize (run bS bC (digs a0 a1 a2 a3) (digs b0 b1 b2 b3) k).2 = z at z1 hs ⊢
        clear hX hY
        go_wp2_with fail
        refine wp_region_sd mixed (by kernel_rfl) ?_
        repeat (refine wpStill_step (fun K hK => ?_); go_simp; (try go_bits); refine hK _ ?_; clear hK K)
        refine wpStill_nil ?_
        go_wp2_with fail
        go_roundw
        case rel =>
          refine ⟨k + 1, by omega, by go_num, ?_, ?_, hvq.setO (by simpa using fun h => hpq h.symm) _, hv4.setO (by intro h; simp at h; omega) _, bel_drew (bel_set hbel (by show w.heap.size ≤ p; omega) _)⟩
          · rw [hs]; rfl
          · rw [hs]; exact hvp.set k _
        case measure => simp [intOf]; omega
      · obtain rfl : k = 16 := by omega
        have zk := run_c (ss := bS) bC_bd hX hY 16
        rw [hk0] at zk ⊢
        go_wp2_with (first
          | (refine wpList_load_vrow rfl rfl rfl hvp Try.underlying29 rfl (by rw [List.length_map, run_len, hX.1]; kernel_rfl) ?_; simp only [Act.put, List.setIfInBounds_toArray, List.set_cons_zero, List.set_cons_succ])
          | (go_at_call 26; (with_reducible refine (DN.out _).mono ?_); rintro e w1 ⟨rfl, hb1⟩; replace hbel := below_S hbel hb1; replace hv4 := VRow.belowS hv4 hb1; clear hb1)
          | (refine wpList_store_row rfl 24 _ _ rfl _ _ rfl rfl 24 _ hv4 (by kernel_rfl) (by kernel_rfl) ?c1 ?_; (case c1 => simp [Value.oneCell'])))
        refine bodyPost_ret (results_vrow_tmp rfl _ _ _ 24 _ _ rfl (VRow.setRow hv4 [.int .u64 n0, .int .u64 n1, .int .u64 n2, .int .u64 n3]) Try.underlying24 rfl (by kernel_rfl)) rfl ⟨rfl, bel_setRow hbel (by omega) _⟩
end Go.Proofs.Ytcbaoppbdhelpaa
