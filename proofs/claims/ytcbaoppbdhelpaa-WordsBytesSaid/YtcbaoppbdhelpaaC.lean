import Derived.Test.YtcbaoppbdhelpaaA
namespace Go.Proofs.Ytcbaoppbdhelpaa
open Go.RowKit Go.Proofs Go.Proofs.MyK
set_option linter.unusedSimpArgs false
set_option linter.unusedVariables false

def zero32 : List Int := List.replicate 32 0
def fillB (n : Nat) (x : Int) (xs : List Int) : Nat → List Int
  | 0 => xs
  | k + 1 => (fillB n x xs k).set (n - k) (x / 2 ^ (8 * k) % 256)
theorem fillBLen (n : Nat) (x : Int) (xs : List Int) : ∀ k, (fillB n x xs k).length = xs.length
  | 0 => rfl
  | k + 1 => by simp [fillB, fillBLen n x xs k]
def fillT (n : Nat) (x : Int) (xs : List Int) : Nat → List Int
  | 0 => xs
  | k + 1 => (fillT n x xs k).set (n + k) (x / 2 ^ (8 * k) % 256)
theorem fillTLen (n : Nat) (x : Int) (xs : List Int) : ∀ k, (fillT n x xs k).length = xs.length
  | 0 => rfl
  | k + 1 => by simp [fillT, fillTLen n x xs k]

set_option maxHeartbeats 4000000 in
theorem bytes_calls (a0 a1 a2 a3 : Int) (h0 : 0 ≤ a0) (h1 : 0 ≤ a1) (h2 : 0 ≤ a2) (h3 : 0 ≤ a3) (w : World) :
    Calls Try.prog 18 #[.agg #[.int .u64 a0, .int .u64 a1, .int .u64 a2, .int .u64 a3]] w fun e w' => e = .returned (.agg ((fillB 7 a3 (fillB 15 a2 (fillB 23 a1 (fillB 31 a0 (zero32) 8) 8) 8) 8).map (Value.int .u8)).toArray) ∧ Below w.heap.size w w' := by
  have i0 : ∀ w, (Instr.index 24 (.agg #[.int .u64 a0, .int .u64 a1, .int .u64 a2, .int .u64 a3]) (.int .i64 0)).run Try.prog w = .ok (.int .u64 a0) w := fun _ => by kernel_rfl
  have i1 : ∀ w, (Instr.index 24 (.agg #[.int .u64 a0, .int .u64 a1, .int .u64 a2, .int .u64 a3]) (.int .i64 1)).run Try.prog w = .ok (.int .u64 a1) w := fun _ => by kernel_rfl
  have i2 : ∀ w, (Instr.index 24 (.agg #[.int .u64 a0, .int .u64 a1, .int .u64 a2, .int .u64 a3]) (.int .i64 2)).run Try.prog w = .ok (.int .u64 a2) w := fun _ => by kernel_rfl
  have i3 : ∀ w, (Instr.index 24 (.agg #[.int .u64 a0, .int .u64 a1, .int .u64 a2, .int .u64 a3]) (.int .i64 3)).run Try.prog w = .ok (.int .u64 a3) w := fun _ => by kernel_rfl
  go_enter Try.func18, Try.ntmps18
  go_wp2_with fail
  refine wp_loop_rounds 5 ?_
  rw [rounds_succ]
  go_wp2_with fail
  go_loopw [12] (fun c wr => ∃ k : Nat, k ≤ 8 ∧ c = .int .i64 k ∧ IRow wr (w.heap.size + 1 + 1) 37 .u8 (fillB 31 a0 (zero32) k) ∧ IRow wr (w.heap.size + 1) 37 .u8 zero32 ∧ Below w.heap.size w wr) (fun c _ => 8 - (intOf c).toNat)
  case atStart => exact ⟨0, by omega, rfl, (by repeat (first | ((with_reducible refine IRow.new' ?_ ?_); (focus (simp; done)); rfl) | (with_reducible refine IRow.alloc ?_ _) | (with_reducible refine IRow.drew ?_))), (by repeat (first | ((with_reducible refine IRow.new' ?_ ?_); (focus (simp; done)); rfl) | (with_reducible refine IRow.alloc ?_ _) | (with_reducible refine IRow.drew ?_))), (by repeat (first | (with_reducible exact Below.refl _ _) | (with_reducible refine bel_drew ?_) | (with_reducible refine bel_alloc ?_ _)))⟩
  case round =>
    obtain ⟨k, hk, rfl, hr, hr2, hbel⟩ := hrel
    by_cases hlt : k < 8
    · have c1 := hr.cell (k := 31 - k) (by simp [fillBLen, zero32]; omega)
      have f1 := hr.frozen (31 - k)
      go_wp2_with fail
      go_roundw
      case rel => exact ⟨k + 1, by omega, by go_num, hr.set _ _, hr2.setO (by simp) _, bel_set hbel (by simp; omega) _⟩
      case measure => simp [intOf]; omega
    · obtain rfl : k = 8 := by omega
      go_wp2_with fail
      rw [rounds_succ]
      go_wp2_with fail
      go_loopw [12] (fun c wr => ∃ k : Nat, k ≤ 8 ∧ c = .int .i64 k ∧ IRow wr (w.heap.size + 1 + 1) 37 .u8 (fillB 23 a1 (fillB 31 a0 (zero32) 8) k) ∧ IRow wr (w.heap.size + 1) 37 .u8 zero32 ∧ Below w.heap.size w wr) (fun c _ => 8 - (intOf c).toNat)
      case atStart => exact ⟨0, by omega, rfl, hr, hr2, hbel⟩
      clear hr hr2 hbel hk hlt
      case round =>
        obtain ⟨k, hk, rfl, hr, hr2, hbel⟩ := hrel
        by_cases hlt : k < 8
        · have c1 := hr.cell (k := 23 - k) (by simp [fillBLen, zero32]; omega)
          have f1 := hr.frozen (23 - k)
          go_wp2_with fail
          go_roundw
          case rel => exact ⟨k + 1, by omega, by go_num, hr.set _ _, hr2.setO (by simp) _, bel_set hbel (by simp; omega) _⟩
          case measure => simp [intOf]; omega
        · obtain rfl : k = 8 := by omega
          go_wp2_with fail
          rw [rounds_succ]
          go_wp2_with fail
          go_loopw [12] (fun c wr => ∃ k : Nat, k ≤ 8 ∧ c = .int .i64 k ∧ IRow wr (w.heap.size + 1 + 1) 37 .u8 (fillB 15 a2 (fillB 23 a1 (fillB 31 a0 (zero32) 8) 8) k) ∧ IRow wr (w.heap.size + 1) 37 .u8 zero32 ∧ Below w.heap.size w wr) (fun c _ => 8 - (intOf c).toNat)
          case atStart => exact ⟨0, by omega, rfl, hr, hr2, hbel⟩
          clear hr hr2 hbel hk hlt
          case round =>
            obtain ⟨k, hk, rfl, hr, hr2, hbel⟩ := hrel
            by_cases hlt : k < 8
            · have c1 := hr.cell (k := 15 - k) (by simp [fillBLen, zero32]; omega)
              have f1 := hr.frozen (15 - k)
              go_wp2_with fail
              go_roundw
              case rel => exact ⟨k + 1, by omega, by go_num, hr.set _ _, hr2.setO (by simp) _, bel_set hbel (by simp; omega) _⟩
              case measure => simp [intOf]; omega
            · obtain rfl : k = 8 := by omega
              go_wp2_with fail
              rw [rounds_succ]
              go_wp2_with fail
              go_loopw [12] (fun c wr => ∃ k : Nat, k ≤ 8 ∧ c = .int .i64 k ∧ IRow wr (w.heap.size + 1 + 1) 37 .u8 (fillB 7 a3 (fillB 15 a2 (fillB 23 a1 (fillB 31 a0 (zero32) 8) 8) 8) k) ∧ IRow wr (w.heap.size + 1) 37 .u8 zero32 ∧ Below w.heap.size w wr) (fun c _ => 8 - (intOf c).toNat)
              case atStart => exact ⟨0, by omega, rfl, hr, hr2, hbel⟩
              clear hr hr2 hbel hk hlt
              case round =>
                obtain ⟨k, hk, rfl, hr, hr2, hbel⟩ := hrel
                by_cases hlt : k < 8
                · have c1 := hr.cell (k := 7 - k) (by simp [fillBLen, zero32]; omega)
                  have f1 := hr.frozen (7 - k)
                  go_wp2_with fail
                  go_roundw
                  case rel => exact ⟨k + 1, by omega, by go_num, hr.set _ _, hr2.setO (by simp) _, bel_set hbel (by simp; omega) _⟩
                  case measure => simp [intOf]; omega
                · obtain rfl : k = 8 := by omega
                  go_wp2_with fail
                  rw [rounds_succ]
                  go_wp2_with (first
                    | (refine wpList_load_row rfl 37 _ rfl _ rfl 37 _ (0, 0) _ hr Try.underlying37 rfl (by kernel_rfl) ?_)
                    | (refine wpList_store_row rfl 37 _ _ rfl _ _ rfl rfl 37 _ hr2 (by kernel_rfl) (by kernel_rfl) ?c1 ?_; (case c1 => simp [Value.oneCell'])))
                  refine bodyPost_ret (results_cell_row rfl _ _ _ 37 _ (0, 0) _ rfl (IRow.setRow hr2 _) Try.underlying37 rfl (by kernel_rfl)) rfl ⟨rfl, bel_setRow hbel (by simp) _⟩

set_option maxHeartbeats 4000000 in
theorem turned_calls (a0 a1 a2 a3 : Int) (h0 : 0 ≤ a0) (h1 : 0 ≤ a1) (h2 : 0 ≤ a2) (h3 : 0 ≤ a3) (w : World) :
    Calls Try.prog 19 #[.agg #[.int .u64 a0, .int .u64 a1, .int .u64 a2, .int .u64 a3]] w fun e w' => e = .returned (.agg ((fillT 24 a3 (fillT 16 a2 (fillT 8 a1 (fillT 0 a0 (zero32) 8) 8) 8) 8).map (Value.int .u8)).toArray) ∧ Below w.heap.size w w' := by
  have i0 : ∀ w, (Instr.index 24 (.agg #[.int .u64 a0, .int .u64 a1, .int .u64 a2, .int .u64 a3]) (.int .i64 0)).run Try.prog w = .ok (.int .u64 a0) w := fun _ => by kernel_rfl
  have i1 : ∀ w, (Instr.index 24 (.agg #[.int .u64 a0, .int .u64 a1, .int .u64 a2, .int .u64 a3]) (.int .i64 1)).run Try.prog w = .ok (.int .u64 a1) w := fun _ => by kernel_rfl
  have i2 : ∀ w, (Instr.index 24 (.agg #[.int .u64 a0, .int .u64 a1, .int .u64 a2, .int .u64 a3]) (.int .i64 2)).run Try.prog w = .ok (.int .u64 a2) w := fun _ => by kernel_rfl
  have i3 : ∀ w, (Instr.index 24 (.agg #[.int .u64 a0, .int .u64 a1, .int .u64 a2, .int .u64 a3]) (.int .i64 3)).run Try.prog w = .ok (.int .u64 a3) w := fun _ => by kernel_rfl
  go_enter Try.func19, Try.ntmps19
  go_wp2_with fail
  refine wp_loop_rounds 5 ?_
  rw [rounds_succ]
  go_wp2_with fail
  go_loopw [12] (fun c wr => ∃ k : Nat, k ≤ 8 ∧ c = .int .i64 k ∧ IRow wr (w.heap.size + 1 + 1) 37 .u8 (fillT 0 a0 (zero32) k) ∧ IRow wr (w.heap.size + 1) 37 .u8 zero32 ∧ Below w.heap.size w wr) (fun c _ => 8 - (intOf c).toNat)
  case atStart => exact ⟨0, by omega, rfl, (by repeat (first | ((with_reducible refine IRow.new' ?_ ?_); (focus (simp; done)); rfl) | (with_reducible refine IRow.alloc ?_ _) | (with_reducible refine IRow.drew ?_))), (by repeat (first | ((with_reducible refine IRow.new' ?_ ?_); (focus (simp; done)); rfl) | (with_reducible refine IRow.alloc ?_ _) | (with_reducible refine IRow.drew ?_))), (by repeat (first | (with_reducible exact Below.refl _ _) | (with_reducible refine bel_drew ?_) | (with_reducible refine bel_alloc ?_ _)))⟩
  case round =>
    obtain ⟨k, hk, rfl, hr, hr2, hbel⟩ := hrel
    by_cases hlt : k < 8
    · have c1 := hr.cell (k := k) (by simp [fillTLen, zero32]; omega)
      have f1 := hr.frozen (k)
      go_wp2_with fail
      go_roundw
      case rel => exact ⟨k + 1, by omega, by go_num, (by have h9 := hr.set k (a0 / 2 ^ (8 * k) % 256); rw [show fillT 0 a0 zero32 (k + 1) = (fillT 0 a0 zero32 k).set k (a0 / 2 ^ (8 * k) % 256) by simp [fillT]]; exact h9), hr2.setO (by simp) _, bel_set hbel (by simp; omega) _⟩
      case measure => simp [intOf]; omega
    · obtain rfl : k = 8 := by omega
      go_wp2_with fail
      rw [rounds_succ]
      go_wp2_with fail
      go_loopw [12] (fun c wr => ∃ k : Nat, k ≤ 8 ∧ c = .int .i64 k ∧ IRow wr (w.heap.size + 1 + 1) 37 .u8 (fillT 8 a1 (fillT 0 a0 (zero32) 8) k) ∧ IRow wr (w.heap.size + 1) 37 .u8 zero32 ∧ Below w.heap.size w wr) (fun c _ => 8 - (intOf c).toNat)
      case atStart => exact ⟨0, by omega, rfl, hr, hr2, hbel⟩
      clear hr hr2 hbel hk hlt
      case round =>
        obtain ⟨k, hk, rfl, hr, hr2, hbel⟩ := hrel
        by_cases hlt : k < 8
        · have c1 := hr.cell (k := 8 + k) (by simp [fillTLen, zero32]; omega)
          have f1 := hr.frozen (8 + k)
          go_wp2_with fail
          go_roundw
          case rel => exact ⟨k + 1, by omega, by go_num, hr.set _ _, hr2.setO (by simp) _, bel_set hbel (by simp; omega) _⟩
          case measure => simp [intOf]; omega
        · obtain rfl : k = 8 := by omega
          go_wp2_with fail
          rw [rounds_succ]
          go_wp2_with fail
          go_loopw [12] (fun c wr => ∃ k : Nat, k ≤ 8 ∧ c = .int .i64 k ∧ IRow wr (w.heap.size + 1 + 1) 37 .u8 (fillT 16 a2 (fillT 8 a1 (fillT 0 a0 (zero32) 8) 8) k) ∧ IRow wr (w.heap.size + 1) 37 .u8 zero32 ∧ Below w.heap.size w wr) (fun c _ => 8 - (intOf c).toNat)
          case atStart => exact ⟨0, by omega, rfl, hr, hr2, hbel⟩
          clear hr hr2 hbel hk hlt
          case round =>
            obtain ⟨k, hk, rfl, hr, hr2, hbel⟩ := hrel
            by_cases hlt : k < 8
            · have c1 := hr.cell (k := 16 + k) (by simp [fillTLen, zero32]; omega)
              have f1 := hr.frozen (16 + k)
              go_wp2_with fail
              go_roundw
              case rel => exact ⟨k + 1, by omega, by go_num, hr.set _ _, hr2.setO (by simp) _, bel_set hbel (by simp; omega) _⟩
              case measure => simp [intOf]; omega
            · obtain rfl : k = 8 := by omega
              go_wp2_with fail
              rw [rounds_succ]
              go_wp2_with fail
              go_loopw [12] (fun c wr => ∃ k : Nat, k ≤ 8 ∧ c = .int .i64 k ∧ IRow wr (w.heap.size + 1 + 1) 37 .u8 (fillT 24 a3 (fillT 16 a2 (fillT 8 a1 (fillT 0 a0 (zero32) 8) 8) 8) k) ∧ IRow wr (w.heap.size + 1) 37 .u8 zero32 ∧ Below w.heap.size w wr) (fun c _ => 8 - (intOf c).toNat)
              case atStart => exact ⟨0, by omega, rfl, hr, hr2, hbel⟩
              clear hr hr2 hbel hk hlt
              case round =>
                obtain ⟨k, hk, rfl, hr, hr2, hbel⟩ := hrel
                by_cases hlt : k < 8
                · have c1 := hr.cell (k := 24 + k) (by simp [fillTLen, zero32]; omega)
                  have f1 := hr.frozen (24 + k)
                  go_wp2_with fail
                  go_roundw
                  case rel => exact ⟨k + 1, by omega, by go_num, hr.set _ _, hr2.setO (by simp) _, bel_set hbel (by simp; omega) _⟩
                  case measure => simp [intOf]; omega
                · obtain rfl : k = 8 := by omega
                  go_wp2_with fail
                  rw [rounds_succ]
                  go_wp2_with (first
                    | (refine wpList_load_row rfl 37 _ rfl _ rfl 37 _ (0, 0) _ hr Try.underlying37 rfl (by kernel_rfl) ?_)
                    | (refine wpList_store_row rfl 37 _ _ rfl _ _ rfl rfl 37 _ hr2 (by kernel_rfl) (by kernel_rfl) ?c1 ?_; (case c1 => simp [Value.oneCell'])))
                  refine bodyPost_ret (results_cell_row rfl _ _ _ 37 _ (0, 0) _ rfl (IRow.setRow hr2 _) Try.underlying37 rfl (by kernel_rfl)) rfl ⟨rfl, bel_setRow hbel (by simp) _⟩

end Go.Proofs.Ytcbaoppbdhelpaa
