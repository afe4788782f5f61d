import Derived.Test.YtddiamocnkffjaaU
import Derived.Test.YtddiamocnkffjaaE0
namespace Go.Proofs.Ytddiamocnkffjaa
open Go.RowKit Go.Proofs Go.Proofs.MyK
set_option linter.unusedSimpArgs false
set_option linter.unusedVariables false
theorem eq27 (xs ys : List Int) (hx : xs.length = 64) (hy : ys.length = 64) (w : World) : (Op.equalIn 10000 27 (.agg (xs.map (Value.int .u8)).toArray) (.agg (ys.map (Value.int .u8)).toArray)).run Try.prog w = .ok (decide (xs = ys)) w := by
  obtain ⟨i, hi⟩ : ∃ i, Try.prog.info? 5 = some i := info_of_underlying Try.underlying5
  exact run_eql_ints w Try.underlying27 Try.underlying5 hi (by kernel_rfl) .u8 xs ys hx hy
set_option maxRecDepth 4000 in
theorem eqz64 (w : World) : (Op.equalIn 10000 27 (.agg (zero64.map (Value.int .u8)).toArray) (.agg #[Value.int .u8 0, Value.int .u8 0, Value.int .u8 0, Value.int .u8 0, Value.int .u8 0, Value.int .u8 0, Value.int .u8 0, Value.int .u8 0, Value.int .u8 0, Value.int .u8 0, Value.int .u8 0, Value.int .u8 0, Value.int .u8 0, Value.int .u8 0, Value.int .u8 0, Value.int .u8 0, Value.int .u8 0, Value.int .u8 0, Value.int .u8 0, Value.int .u8 0, Value.int .u8 0, Value.int .u8 0, Value.int .u8 0, Value.int .u8 0, Value.int .u8 0, Value.int .u8 0, Value.int .u8 0, Value.int .u8 0, Value.int .u8 0, Value.int .u8 0, Value.int .u8 0, Value.int .u8 0, Value.int .u8 0, Value.int .u8 0, Value.int .u8 0, Value.int .u8 0, Value.int .u8 0, Value.int .u8 0, Value.int .u8 0, Value.int .u8 0, Value.int .u8 0, Value.int .u8 0, Value.int .u8 0, Value.int .u8 0, Value.int .u8 0, Value.int .u8 0, Value.int .u8 0, Value.int .u8 0, Value.int .u8 0, Value.int .u8 0, Value.int .u8 0, Value.int .u8 0, Value.int .u8 0, Value.int .u8 0, Value.int .u8 0, Value.int .u8 0, Value.int .u8 0, Value.int .u8 0, Value.int .u8 0, Value.int .u8 0, Value.int .u8 0, Value.int .u8 0, Value.int .u8 0, Value.int .u8 0])).run Try.prog w = .ok true w := by
  have h := eq27 zero64 zero64 rfl rfl w
  rw [decide_eq_true rfl] at h
  exact h
set_option maxRecDepth 4000 in
set_option maxHeartbeats 4000000 in
theorem blocks_err (v0 v1 v2 v3 : Value) (l0 l1 l2 l3 : List Int) (c : Int) (w : World) (h0 : Bs w v0 l0) (h1 : Bs w v1 l1) (h2 : Bs w v2 l2) (h3 : Bs w v3 l3) (hm3 : l3.length ≤ 140737488355328) (hne : l0.length ≠ 32 ∨ l1.length ≠ 12) :
    Calls Try.prog 3 #[.agg #[v0, v1, v2, v3], .int .u32 c] w fun e w' => e = .returned (.bool true) ∧ Below w.heap.size w w' := by
  obtain ⟨a0, c0, rfl, hc0, hx0⟩ := h0.form
  obtain ⟨a1, c1, rfl, hc1, hx1⟩ := h1.form
  obtain ⟨a2, c2, rfl, _, _⟩ := h2.form
  obtain ⟨a3, c3, rfl, _, _⟩ := h3.form
  have SC := sound_calls
  have BE := fun W => block_err a0 a1 l0.length c0 l1.length c1 c W hne
  have hbx : Below w.heap.size w (w.alloc (Obj.cells #[.slice a0 l0.length c0, .slice a1 l1.length c1, .slice a2 l2.length c2, .slice a3 l3.length c3] 24)) := bel_alloc (Below.refl _ _) _
  have hv : VRow (w.alloc (Obj.cells #[.slice a0 l0.length c0, .slice a1 l1.length c1, .slice a2 l2.length c2, .slice a3 l3.length c3] 24)) w.heap.size 24 [.slice a0 l0.length c0, .slice a1 l1.length c1, .slice a2 l2.length c2, .slice a3 l3.length c3] := VRow.new' rfl rfl
  go_enter Try.func3, Try.ntmps3
  go_wp2_with fail
  refine (SC _).mono ?_
  rintro e w1 ⟨rfl, hb1⟩
  replace hv := hv.belowS hb1
  replace hbx := below_S hbx hb1
  have d0 : _ = some (Value.slice a0 l0.length c0) := hv.cell (k := 0) rfl
  have d1 : _ = some (Value.slice a1 l1.length c1) := hv.cell (k := 1) rfl
  have d2 : _ = some (Value.slice a2 l2.length c2) := hv.cell (k := 2) rfl
  have d3 : _ = some (Value.slice a3 l3.length c3) := hv.cell (k := 3) rfl
  clear hb1
  go_wp2_with fail
  refine (BE _).mono ?_
  rintro e w2 ⟨rfl, hb1⟩
  replace hv := hv.belowS hb1
  replace hbx := below_S hbx hb1
  clear d0 d1 d2 d3 hb1 SC BE
  have hnew : IRow (w2.alloc (.cells ((List.replicate 64 0).map (Value.int .u8)).toArray 27)) w2.heap.size 27 .u8 (List.replicate 64 0) := IRow.new rfl
  have hrow : IRow ((w2.alloc (.cells ((List.replicate 64 0).map (Value.int .u8)).toArray 27)).setRow w2.heap.size (zero64.map (Value.int .u8)).toArray) w2.heap.size 27 .u8 zero64 := VRow.setRow hnew _
  have hv2 := (hv.alloc (.cells ((List.replicate 64 0).map (Value.int .u8)).toArray 27)).setRowO (g := w2.heap.size) (by have := hv.lt; omega) (zero64.map (Value.int .u8)).toArray
  have hbx2 := bel_setRow (bel_alloc hbx (.cells ((List.replicate 64 0).map (Value.int .u8)).toArray 27)) hbx.size (zero64.map (Value.int .u8)).toArray
  go_wp2_with (refine wpList_store_row rfl 27 _ _ rfl _ _ rfl rfl 27 _ hnew (by kernel_rfl) (by simp [zero64]) ?c1 ?_; (case c1 => simp [Value.oneCell']); refine wpList_abs (fun W => VRow W w.heap.size 24 [.slice a0 l0.length c0, .slice a1 l1.length c1, .slice a2 l2.length c2, .slice a3 l3.length c3] ∧ IRow W w2.heap.size 27 .u8 zero64 ∧ Below w.heap.size w W) ⟨hv2, hrow, hbx2⟩ ?_; clear hv2 hrow hbx2 hnew hv hbx; rintro W3 ⟨hv, hrow, hbx⟩; have d0 : _ = some (Value.slice a0 l0.length c0) := hv.cell (k := 0) rfl; have d1 : _ = some (Value.slice a1 l1.length c1) := hv.cell (k := 1) rfl; have d3 : _ = some (Value.slice a3 l3.length c3) := hv.cell (k := 3) rfl)
  refine (xor_err a0 a1 l0.length c0 l1.length c1 c W3 hne _ l3 (Bs_below h3 hbx) hm3).mono ?_
  rintro e W4 ⟨rfl, hb4⟩
  replace hv := hv.belowS hb4
  replace hrow := hrow.belowS hb4
  replace hbx := below_S hbx hb4
  clear d0 d1 d3 hb4
  have d0 : _ = some (Value.slice a0 l0.length c0) := hv.cell (k := 0) rfl
  have d1 : _ = some (Value.slice a1 l1.length c1) := hv.cell (k := 1) rfl
  have eqz := eqz64
  by_cases h32 : l0.length = 32
  · have hn : ¬ (l1.length : Int) = 12 := by omega
    have h32' : (l0.length : Int) = 32 := by omega
    go_wp2_with (refine wpList_load_vrow rfl rfl rfl hrow Try.underlying27 rfl (by kernel_rfl) ?_; simp only [Act.put, List.setIfInBounds_toArray, List.set_cons_zero, List.set_cons_succ])
    go_ret
    exact ⟨rfl, hbx⟩
  · have h32' : ¬ (l0.length : Int) = 32 := by omega
    go_wp2_with (refine wpList_load_vrow rfl rfl rfl hrow Try.underlying27 rfl (by kernel_rfl) ?_; simp only [Act.put, List.setIfInBounds_toArray, List.set_cons_zero, List.set_cons_succ])
    go_ret
    exact ⟨rfl, hbx⟩
end Go.Proofs.Ytddiamocnkffjaa
