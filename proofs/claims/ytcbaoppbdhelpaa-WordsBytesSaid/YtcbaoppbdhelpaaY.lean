import Derived.Test.YtcbaoppbdhelpaaB
import Derived.Test.YtcbaoppbdhelpaaP
import Derived.Test.YtcbaoppbdhelpaaR2
import Derived.Laws.AppendOwn
import Derived.Deep.Onto
import Derived.OwnWalk
namespace Go.Proofs.Ytcbaoppbdhelpaa
open Go.RowKit Go.Proofs Go.Proofs.MyK
set_option linter.unusedSimpArgs false
set_option linter.unusedVariables false

theorem infoByte : (Try.prog.info? 5).map (fun i => (i.zero, i.size, i.bytes)) = some (some (.int .u8 0), 1, 1) := by kernel_rfl
theorem VRow.grown {w w' : World} {b : Nat} {T : TypeId} {xs : List Value} {row : Option Nat} (h : VRow w b T xs) (hg : w.grownBy w' row) (hne : some b ≠ row) : VRow w' b T xs := by
  have hl := VRow.lt h
  unfold VRow at *; rw [hg.block b hl hne]; exact h
/-- The first k of the document's bytes. -/
def rb (d : List Int) : Nat → List Int
  | 0 => []
  | k + 1 => rb d k ++ [d.getD (15 - k) 0 / 256, d.getD (15 - k) 0 % 256]
theorem rb_len (d : List Int) : ∀ k, (rb d k).length = 2 * k
  | 0 => rfl
  | k + 1 => by simp [rb, rb_len d k]; omega
/-- The last k of a row's elements, the last first. -/
def rt (z : Nat → Int) : Nat → List Int
  | 0 => []
  | k + 1 => rt z k ++ [z (31 - k)]
theorem rt_len (z : Nat → Int) : ∀ k, (rt z k).length = k
  | 0 => rfl
  | k + 1 => by simp [rt, rt_len z k]
theorem digs_bd (a0 a1 a2 a3 : Int) (k : Nat) (hk : k < 16) : 0 ≤ (digs a0 a1 a2 a3).getD k 0 ∧ (digs a0 a1 a2 a3).getD k 0 < 65536 := by
  have : k = 0 ∨ k = 1 ∨ k = 2 ∨ k = 3 ∨ k = 4 ∨ k = 5 ∨ k = 6 ∨ k = 7 ∨ k = 8 ∨ k = 9 ∨ k = 10 ∨ k = 11 ∨ k = 12 ∨ k = 13 ∨ k = 14 ∨ k = 15 := by omega
  rcases this with rfl | rfl | rfl | rfl | rfl | rfl | rfl | rfl | rfl | rfl | rfl | rfl | rfl | rfl | rfl | rfl <;> (simp [digs, dg0, dg1, dg2, dg3]; omega)

set_option maxHeartbeats 4000000 in
theorem turn_calls (b off cap : Nat) (z : Nat → Int) (hcap : 32 ≤ cap) (hcap' : cap ≤ 9223372036854775807) (w : World) (hlt : b < w.heap.size) (hz : ∀ k, k < 32 → w.cell? ⟨b, off + k, none⟩ = some (.int .u8 (z k))) :
    Calls Try.prog 23 #[.slice (some ⟨b, off, none⟩) 32 cap] w fun e w' => (∃ v, e = .returned v ∧ w'.ownsRow w.heap.size 5 1 v 32 ((rt z 32).map (Value.int .u8))) ∧ Below w.heap.size w w' := by
  obtain ⟨i0, hi, hz0, hz1, hz2⟩ := info_parts infoByte
  go_enter Try.func23, Try.ntmps23
  go_wp2_with fail
  go_loopw [3, 4] (fun v i wr => ∃ k : Nat, k ≤ 32 ∧ i = .int .i64 (31 - (k : Int)) ∧ wr.ownsRow w.heap.size 5 1 v k ((rt z k).map (Value.int .u8)) ∧ Below w.heap.size w wr) (fun _ i _ => (intOf i + 1).toNat)
  case atStart => exact ⟨0, by omega, rfl, World.ownsRow_nil _ _ _ _, (by repeat (first | (with_reducible exact Below.refl _ _) | (with_reducible refine bel_drew ?_) | (with_reducible refine bel_alloc ?_ _)))⟩
  case round =>
    obtain ⟨k, hk, rfl, hown, hbel⟩ := hrel
    by_cases hlk : k < 32
    · have c1 : wr.cell? ⟨b, off + (31 - k), none⟩ = some (.int .u8 (z (31 - k))) := (hbel.cell (by exact hlt)).trans (hz (31 - k) (by omega))
      go_wp2_with (at_builtin; refine wpList_append_own _ rfl _ _ 36 rfl w.heap.size 5 i0 (.int .u8 0) 1 1 Try.underlying36 hi hz0 hz1 hz2 rfl (by decide) _ _ _ rfl (hown.alloc _) ⟨wr.heap.size, 0, none⟩ 1 1 [.int .u8 (z (31 - k))] rfl rfl ?c1 ?c2 ?c3 ?c4 ?c5 ?_)
      case c1 =>
        intro j u hj
        match j, hj with
        | 0, hj => simp at hj; subst hj; simp [Addr.add]
      case c2 => intro u hu; simp at hu; subst hu; rfl
      case c3 => unfold maxLen; omega
      case c4 => omega
      case c5 => have := hbel.size; simp; omega
      intro v' w1 hown' hgrow _
      have hb' : Below w.heap.size w w1 := (bel_alloc hbel _).grown hgrow (by have := hbel.size; simp; omega) (fun k hk => (hown.lt k hk).1)
      have ho' : w1.ownsRow w.heap.size 5 1 v' (k + 1) ((rt z (k + 1)).map (Value.int .u8)) := by
        simpa [rt] using hown'
      clear hown' hgrow hown hbel c1
      go_wp2_with fail
      go_roundw
      case rel => exact ⟨k + 1, by omega, by go_num, ho', hb'⟩
      case measure => simp [intOf]; omega
    · obtain rfl : k = 32 := by omega
      go_wp2_with fail
      go_ret
      exact ⟨⟨_, rfl, hown⟩, hbel⟩

set_option maxHeartbeats 4000000 in
theorem rbytes_calls (a0 a1 a2 a3 : Int) (h0 : 0 ≤ a0) (h1 : 0 ≤ a1) (h2 : 0 ≤ a2) (h3 : 0 ≤ a3) (w : World) :
    Calls Try.prog 20 #[.agg #[.int .u64 a0, .int .u64 a1, .int .u64 a2, .int .u64 a3]] w fun e w' => (∃ v, e = .returned v ∧ w'.ownsRow w.heap.size 5 1 v 32 ((rb (digs a0 a1 a2 a3) 16).map (Value.int .u8))) ∧ Below w.heap.size w w' := by
  obtain ⟨i0, hi, hz0, hz1, hz2⟩ := info_parts infoByte
  have D1 := Lib.hid (fun w => digits_calls a0 a1 a2 a3 h0 h1 h2 h3 w)
  have hX := digs_bd a0 a1 a2 a3
  go_enter Try.func20, Try.ntmps20
  go_wp2_with (go_at_call 10; (with_reducible refine (D1.out _).mono ?_); rintro e w1 ⟨rfl, hb1⟩; have hbel : Below w.heap.size w _ := below_S (by repeat (first | (with_reducible exact Below.refl _ _) | (with_reducible refine bel_drew ?_) | (with_reducible refine bel_alloc ?_ _))) hb1; have hsz := hb1.size; clear hb1)
  replace hsz : w.heap.size < w1.heap.size := by simp at hsz; omega
  have hr : IRow (w1.alloc (.cells #[.int .i64 (dg0 a0), .int .i64 (dg1 a0), .int .i64 (dg2 a0), .int .i64 (dg3 a0), .int .i64 (dg0 a1), .int .i64 (dg1 a1), .int .i64 (dg2 a1), .int .i64 (dg3 a1), .int .i64 (dg0 a2), .int .i64 (dg1 a2), .int .i64 (dg2 a2), .int .i64 (dg3 a2), .int .i64 (dg0 a3), .int .i64 (dg1 a3), .int .i64 (dg2 a3), .int .i64 (dg3 a3)] 29)) w1.heap.size 29 .i64 (digs a0 a1 a2 a3) := IRow.new' rfl rfl
  replace hbel := bel_alloc hbel (.cells #[.int .i64 (dg0 a0), .int .i64 (dg1 a0), .int .i64 (dg2 a0), .int .i64 (dg3 a0), .int .i64 (dg0 a1), .int .i64 (dg1 a1), .int .i64 (dg2 a1), .int .i64 (dg3 a1), .int .i64 (dg0 a2), .int .i64 (dg1 a2), .int .i64 (dg2 a2), .int .i64 (dg3 a2), .int .i64 (dg0 a3), .int .i64 (dg1 a3), .int .i64 (dg2 a3), .int .i64 (dg3 a3)] 29)
  go_loopw [4, 5] (fun v i wr => ∃ k : Nat, k ≤ 16 ∧ i = .int .i64 (15 - (k : Int)) ∧ wr.ownsRow (w1.heap.size + 1) 5 1 v (2 * k) ((rb (digs a0 a1 a2 a3) k).map (Value.int .u8)) ∧ IRow wr w1.heap.size 29 .i64 (digs a0 a1 a2 a3) ∧ Below w.heap.size w wr) (fun _ i _ => (intOf i + 1).toNat)
  case atStart => exact ⟨0, by omega, rfl, World.ownsRow_nil _ _ _ _, hr, hbel⟩
  clear hr hbel
  case round =>
    obtain ⟨k, hk, rfl, hown, hr, hbel⟩ := hrel
    by_cases hlk : k < 16
    · have c1 := hr.cell (k := 15 - k) (by simp [digs]; omega)
      have x1 := hX (15 - k) (by omega)
      have hs : rb (digs a0 a1 a2 a3) (k + 1) = rb (digs a0 a1 a2 a3) k ++ [(digs a0 a1 a2 a3).getD (15 - k) 0 / 256, (digs a0 a1 a2 a3).getD (15 - k) 0 % 256] := rfl
      generalize (digs a0 a1 a2 a3).getD (15 - k) 0 = x at c1 x1 hs
      go_wp2_with fail
      have hlt16 : (15 : Int) - (k : Int) < 16 := by omega
      refine wp_region_plan 11 11 [(.p, 0), (.h, 1), (.h, 2), (.h, 3), (.h, 4), (.h, 5), (.h, 6), (.h, 7), (.h, 8), (.h, 9), (.h, 10), (.w, 11), (.w, 12), (.p, 13)] mixed (by kernel_rfl) (fun dst _ _ _ _ h => by cases dst <;> exact h) ?_
      intro Q' K' hQ' hK'
      simp only [planOps_cons, planOps_nil, getD_zero, getD_succ]
      repeat (first
        | (refine seqC_w (fun K hK => ?_); rw [if_pos (by rfl)]; refine wp_append_own _ _ _ 36 rfl (w1.heap.size + 1) 5 i0 (.int .u8 0) 1 1 Try.underlying36 hi hz0 hz1 hz2 rfl (by decide) _ _ _ rfl (World.ownsRow.alloc (w := wr.drew) hown _) ⟨wr.heap.size, 0, none⟩ 2 2 [.int .u8 (x / 256), .int .u8 (x % 256)] rfl rfl ?c1 ?c2 ?c3 ?c4 ?c5 ?_; (case c1 => (intro j u hj; rcases j with _ | _ | j <;> simp at hj <;> subst hj <;> simp [Addr.add])); (case c2 => (intro u hu; simp at hu; rcases hu with rfl | rfl <;> rfl)); (case c3 => (unfold maxLen; omega)); (case c4 => omega); (case c5 => (have := hr.lt; simp; omega)); intro v' w2 hown' hgrow _; refine hK _ _ ?_; clear hK K)
        | ((first | (with_reducible refine seqC_skip_h rfl ?_) | (with_reducible refine seqC_skip_p rfl ?_) | (with_reducible refine seqC_skip_e rfl ?_) | (with_reducible refine seqC_skip_w rfl ?_) | (with_reducible refine seqC_skip_b hB rfl ?_)); (try simp only [Act.put, List.setIfInBounds_toArray, List.set_cons_zero, List.set_cons_succ]))
        | (refine seqC_h (fun K hK => ?_); go_simp; (try go_bits); refine hK _ ?_; clear hK K)
        | (refine seqC_p (v := ?_) rfl (fun w' => ?_) ?_; rotate_left; go_simp; (try go_bits); (with_reducible rfl); (try simp only [Act.put, List.setIfInBounds_toArray, List.set_cons_zero, List.set_cons_succ]))
        | (refine seqC_e (v := ?_) rfl (fun w' hb' => ?_) ?_; rotate_left; (have hb1 := (bcell hb').1; clear hb'; go_simp; (try go_bits)); (with_reducible rfl); (try simp only [Act.put, List.setIfInBounds_toArray, List.set_cons_zero, List.set_cons_succ]))
        | (refine seqC_w (fun K hK => ?_); go_simp; (try go_bits); refine hK _ _ ?_; clear hK K))
      refine seqC_nil (hK' _ _ ?_)
      clear hK' K' hQ' Q'
      have hb' : Below w.heap.size w w2 := Below.grown (bel_alloc (bel_drew hbel) _) hgrow (by have := hbel.size; simp; omega) (fun k hk => (by have := (hown.lt k hk).1; omega))
      have hr' : IRow w2 w1.heap.size 29 .i64 (digs a0 a1 a2 a3) := VRow.grown (VRow.alloc (VRow.drew hr) _) hgrow (fun h => (by have := (hown.lt _ h.symm).1; omega))
      have ho' : w2.ownsRow (w1.heap.size + 1) 5 1 v' (2 * (k + 1)) ((rb (digs a0 a1 a2 a3) (k + 1)).map (Value.int .u8)) := by
        rw [hs]; simpa [Nat.mul_add] using hown'
      clear hown' hgrow hown hbel c1 hr
      go_wp2_with fail
      go_roundw
      case rel => exact ⟨k + 1, by omega, by go_num, ho', hr', hb'⟩
      case measure => simp [intOf]; omega
    · obtain rfl : k = 16 := by omega
      go_wp2_with fail
      go_ret
      exact ⟨⟨_, rfl, hown.mono (by omega)⟩, hbel⟩
end Go.Proofs.Ytcbaoppbdhelpaa
