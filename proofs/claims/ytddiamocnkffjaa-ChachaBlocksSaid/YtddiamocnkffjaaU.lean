import Derived.Test.YtddiamocnkffjaaT
namespace Go.Proofs.Ytddiamocnkffjaa
open Go.RowKit Go.Proofs Go.Proofs.MyK
set_option linter.unusedSimpArgs false
set_option linter.unusedVariables false
def zero64 : List Int := List.replicate 64 0
set_option maxRecDepth 4000 in
set_option maxHeartbeats 4000000 in
theorem block_err (a1 a2 : Option Addr) (n1 c1 n2 c2 : Nat) (x : Int) (w : World) (h : n1 ≠ 32 ∨ n2 ≠ 12) :
    Calls Try.prog 10 #[.slice a1 n1 c1, .int .u32 x, .slice a2 n2 c2] w fun e w' => e = .returned (.tuple #[.agg (zero64.map (Value.int .u8)).toArray, .int .i64 2]) ∧ Below w.heap.size w w' := by
  have ho : IRow ((w.alloc (.cells ((List.replicate 64 0).map (Value.int .u8)).toArray 27)).alloc (.cells ((List.replicate 64 0).map (Value.int .u8)).toArray 27)) w.heap.size 27 .u8 (List.replicate 64 0) := (IRow.new rfl).alloc _
  have hv : IRow ((w.alloc (.cells ((List.replicate 64 0).map (Value.int .u8)).toArray 27)).alloc (.cells ((List.replicate 64 0).map (Value.int .u8)).toArray 27)) (w.heap.size + 1) 27 .u8 (List.replicate 64 0) := IRow.new (by simp)
  by_cases h1 : n1 = 32
  · have h2 : ¬ (n2 : Int) = 12 := by omega
    subst h1
    clear h
    skip
    go_enter Try.func10, Try.ntmps10
    go_wp2_with (first
      | (refine wpList_load_vrow rfl rfl rfl hv Try.underlying27 rfl (by rw [List.length_map, List.length_replicate]; kernel_rfl) ?_; simp only [Act.put, List.setIfInBounds_toArray, List.set_cons_zero, List.set_cons_succ])
      | (refine wpList_store_row rfl 27 _ _ rfl _ _ rfl rfl 27 _ ho (by rw [List.size_toArray, List.length_map, List.length_replicate]; kernel_rfl) (by simp) ?c1 ?_; (case c1 => simp [Value.oneCell'])))
    refine bodyPost_ret (results_vrow_tmp rfl _ _ _ 27 _ _ rfl (VRow.setRow ho _) Try.underlying27 rfl (by first | kernel_rfl | (rw [List.length_map, List.length_replicate]; kernel_rfl))) rfl ⟨rfl, bel_setRow (bel_alloc (bel_alloc (Below.refl _ _) _) _) (Nat.le_refl _) _⟩
  · have h1' : ¬ (n1 : Int) = 32 := by omega
    clear h
    skip
    go_enter Try.func10, Try.ntmps10
    go_wp2_with (first
      | (refine wpList_load_vrow rfl rfl rfl hv Try.underlying27 rfl (by rw [List.length_map, List.length_replicate]; kernel_rfl) ?_; simp only [Act.put, List.setIfInBounds_toArray, List.set_cons_zero, List.set_cons_succ])
      | (refine wpList_store_row rfl 27 _ _ rfl _ _ rfl rfl 27 _ ho (by rw [List.size_toArray, List.length_map, List.length_replicate]; kernel_rfl) (by simp) ?c1 ?_; (case c1 => simp [Value.oneCell'])))
    refine bodyPost_ret (results_vrow_tmp rfl _ _ _ 27 _ _ rfl (VRow.setRow ho _) Try.underlying27 rfl (by first | kernel_rfl | (rw [List.length_map, List.length_replicate]; kernel_rfl))) rfl ⟨rfl, bel_setRow (bel_alloc (bel_alloc (Below.refl _ _) _) _) (Nat.le_refl _) _⟩
set_option maxHeartbeats 4000000 in
theorem xor_err (a1 a2 : Option Addr) (n1 c1 n2 c2 : Nat) (x : Int) (w : World) (h : n1 ≠ 32 ∨ n2 ≠ 12) (v : Value) (l : List Int) (hB : Bs w v l) (hm : l.length ≤ 140737488355328) :
    Calls Try.prog 11 #[.slice a1 n1 c1, .int .u32 x, .slice a2 n2 c2, v] w fun e w' => e = .returned (.tuple #[.slice none 0 0, .int .i64 2]) ∧ Below w.heap.size w w' := by
  obtain ⟨i0, hi, hz0, hz1, hz2⟩ := info_parts infoByte
  go_enter Try.func11, Try.ntmps11
  go_wp2_with (at_builtin; refine wpList_append_bs _ rfl _ _ 22 rfl w.heap.size 5 i0 Try.underlying22 hi hz0 hz1 hz2 _ 0 [] rfl (World.ownsRow_nil _ _ _ _) _ rfl l hB (by omega) (Nat.le_refl _) ?_)
  intro v' w1 hown hgrow _
  have hbel : Below w.heap.size w w1 := (Below.refl _ _).grown hgrow (Nat.le_refl _) (fun k hk => by cases hk)
  clear hgrow hown
  by_cases h1 : n1 = 32
  · have h2 : ¬ (n2 : Int) = 12 := by omega
    subst h1
    clear h
    go_wp2_with fail
    go_ret2
    exact ⟨rfl, hbel⟩
  · have h1' : ¬ (n1 : Int) = 32 := by omega
    clear h
    go_wp2_with fail
    go_ret2
    exact ⟨rfl, hbel⟩
end Go.Proofs.Ytddiamocnkffjaa
