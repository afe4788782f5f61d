import Derived.Test.YtddiamocnkffjaaF
import Derived.Lib.SlBytesConst
namespace Go.Proofs.Ytddiamocnkffjaa
open Go.RowKit Go.Proofs Go.Proofs.MyK
set_option linter.unusedSimpArgs false
set_option linter.unusedVariables false
/-- Places from 'off' on, filled by f. -/
def fills (f : Nat → Int) (off : Nat) (s : List Int) : Nat → List Int
  | 0 => s
  | k + 1 => (fills f off s k).set (off + k) (f k)
theorem fills_len (f : Nat → Int) (off : Nat) (s : List Int) : ∀ k, (fills f off s k).length = s.length
  | 0 => rfl
  | k + 1 => by simp [fills, fills_len f off s k]
def zero16 : List Int := List.replicate 16 0
def expand : List Int := [101, 120, 112, 97, 110, 100, 32, 51, 50, 45, 98, 121, 116, 101, 32, 107]
theorem getD_bd : ∀ (l : List Int), (∀ x ∈ l, 0 ≤ x ∧ x < 256) → ∀ k, 0 ≤ l.getD k 0 ∧ l.getD k 0 < 256
  | [], _, k => by simp [List.getD]
  | x :: l, h, 0 => by simpa [List.getD] using h x (by simp)
  | x :: l, h, k + 1 => by simpa [List.getD] using getD_bd l (fun y hy => h y (by simp [hy])) k
theorem expand_bd : ∀ k, 0 ≤ expand.getD k 0 ∧ expand.getD k 0 < 256 := getD_bd _ (by decide)
def cst (i : Nat) : Int := le4 (fun j => expand.getD (4 * i + j) 0)
def kw (kz : Nat → Int) (i : Nat) : Int := le4 (fun j => kz (4 * i + j))
theorem le4_bd {z : Nat → Int} (h : ∀ k, 0 ≤ z k ∧ z k < 256) : W32 (le4 z) := by
  have h0 := h 0
  have h1 := h 1
  have h2 := h 2
  have h3 := h 3
  unfold le4 W32
  omega
theorem mod32 {x : Int} (h : W32 x) : x % 4294967296 = x := by unfold W32 at h; omega
theorem wr32 {x : Int} (h : W32 x) : IntKind.u32.wrap x = x := by
  unfold W32 at h
  rw [IntKind.wrap_u32]; omega
theorem fills_bd {f : Nat → Int} (hf : ∀ k, W32 (f k)) {s : List Int} (hs : A32 s) (off : Nat) : ∀ k, A32 (fills f off s k)
  | 0 => hs
  | k + 1 => (fills_bd hf hs off k).set _ (hf k)
theorem zero16_A : A32 zero16 := ⟨rfl, fun k => by
  by_cases h : k < 16
  · revert k; unfold W32; decide
  · rw [List.getD_eq_getElem?_getD, List.getElem?_eq_none (by simpa [zero16] using h)]; unfold W32; decide⟩
/-- The words ahead of the rounds, as the code lays them. -/
def stp (kz : Nat → Int) (c : Int) (nz : Nat → Int) : List Int := fills (kw nz) 13 ((fills (kw kz) 4 (fills cst 0 zero16 4) 8).set 12 c) 3
theorem stp_eq (kz : Nat → Int) (c : Int) (nz : Nat → Int) : stp kz c nz = st0 kz c nz := rfl
theorem stp_A {kz nz : Nat → Int} {c : Int} (hk : ∀ k, 0 ≤ kz k ∧ kz k < 256) (hn : ∀ k, 0 ≤ nz k ∧ nz k < 256) (hc : W32 c) : A32 (stp kz c nz) :=
  fills_bd (fun k => le4_bd fun j => hn _) ((fills_bd (fun k => le4_bd fun j => hk _) (fills_bd (fun k => le4_bd fun j => expand_bd _) zero16_A _ _) _ _).set _ hc) _ _
/-- The block's bytes: a word after the other. -/
def outs (s t : List Int) : Nat → List Int
  | 0 => List.replicate 64 0
  | k + 1 => put4 (outs s t k) (4 * k) ((s.getD k 0 + t.getD k 0) % 4294967296)
theorem outs_succ (s t : List Int) (k : Nat) : outs s t (k + 1) = put4 (outs s t k) (4 * k) ((s.getD k 0 + t.getD k 0) % 4294967296) := by rw [outs]
theorem outs_len (s t : List Int) : ∀ k, (outs s t k).length = 64
  | 0 => by simp [outs]
  | k + 1 => by rw [outs, put4_len, outs_len s t k]
structure BI (w W : World) (g : Nat) (s t o : List Int) : Prop where
  ht : IRow W g 47 .u32 t
  hr : IRow W (w.heap.size + 1 + 1) 47 .u32 s
  hv : IRow W (w.heap.size + 1) 27 .u8 o
  ho : IRow W w.heap.size 27 .u8 (List.replicate 64 0)
  hbel : Below w.heap.size w W
  hlt : w.heap.size + 1 + 1 < g
theorem BI.step {w W w1 : World} {g : Nat} {s t t1 o : List Int} (h : BI w W g s t o) (ht : IRow w1 g 47 .u32 t1) (hg : W.grownBy w1 (some g)) : BI w w1 g s t1 o :=
  ⟨ht, h.hr.grown hg (by have := h.hlt; simp; omega), h.hv.grown hg (by have := h.hlt; simp; omega), h.ho.grown hg (by have := h.hlt; simp; omega), below_grown h.hbel hg (by have := h.hlt; omega), h.hlt⟩
theorem BI.put {w W w1 : World} {g : Nat} {s t o o1 : List Int} (h : BI w W g s t o) (hv : IRow w1 (w.heap.size + 1) 27 .u8 o1) (hg : W.drew.grownBy w1 (some (w.heap.size + 1))) : BI w w1 g s t o1 :=
  ⟨h.ht.drew.grown hg (by have := h.hlt; simp; omega), h.hr.drew.grown hg (by simp), hv, h.ho.drew.grown hg (by simp), below_grown (bel_drew h.hbel) hg (by omega), h.hlt⟩
theorem quarter_at (g : Nat) (T : TypeId) (s0 : List Int) (a b c d : Nat) (ia ib ic id : Int) (ea : ia = (a : Int)) (eb : ib = (b : Int)) (ec : ic = (c : Int)) (ed : id = (d : Int)) (ha : a < 16) (hb : b < 16) (hc : c < 16) (hd : d < 16) (hs0 : A32 s0) (w : World) (hr : IRow w g T .u32 s0) :
    Calls Try.prog 22 #[.pointer (some ⟨g, 0, none⟩), .int .i64 ia, .int .i64 ib, .int .i64 ic, .int .i64 id] w fun e w' => e = .returned (.tuple #[]) ∧ IRow w' g T .u32 (qr s0 a b c d) ∧ w.grownBy w' (some g) := by
  subst ea eb ec ed
  exact quarter_calls g T s0 a b c d ha hb hc hd hs0 w hr
theorem slice64 (b k : Nat) (hk : k < 16) (W : World) : (Instr.sliceAt 27 (.pointer (some ⟨b, 0, none⟩)) (some (.int .i64 (4 * (k : Int)))) (some (.int .i64 (4 * (k : Int) + 4))) none).run Try.prog W = .ok (.slice (some ⟨b, 4 * k, none⟩) 4 (64 - 4 * k)) W := by
  have ht : Try.prog.underlying 27 = some (.array (Try.prog.arrayLen 27) (Try.prog.elem 27)) := by kernel_rfl
  have hl : Try.prog.arrayLen 27 = 64 := by kernel_rfl
  have hs : (sizeOf (Try.prog.elem 27)).run Try.prog W = .ok 1 W := by kernel_rfl
  have e1 : (4 * (k : Int)).toNat = 4 * k := by omega
  have e2 : (4 * (k : Int) + 4).toNat = 4 * k + 4 := by omega
  rw [run_sliceAt_array_lh W 27 _ ht .i64 .i64 _ _ (by omega) (by omega) (by rw [hl]; omega), hs, hl, e1, e2]
  have e3 : 4 * k + 4 - 4 * k = 4 := by omega
  have e4 : ¬ (64 = 4 * k) := by omega
  simp [slicedAt, Addr.add, e3, e4]
  exact fun h => h.symm
/-- The block. -/
def blockL (kz : Nat → Int) (c : Int) (nz : Nat → Int) : List Int := outs (stp kz c nz) (drs (stp kz c nz) 10) 16
set_option maxRecDepth 4000 in
set_option maxHeartbeats 8000000 in
theorem block_calls (bk ok ck bn on cn : Nat) (kz nz : Nat → Int) (c : Int) (w : World) (hk : ∀ k, 0 ≤ kz k ∧ kz k < 256) (hn : ∀ k, 0 ≤ nz k ∧ nz k < 256) (hc : W32 c)
    (hbk : bk < w.heap.size) (hbn : bn < w.heap.size) (ck32 : 32 ≤ ck) (cn12 : 12 ≤ cn)
    (hK : ∀ k, k < 32 → w.cell? ⟨bk, ok + k, none⟩ = some (.int .u8 (kz k))) (hN : ∀ k, k < 12 → w.cell? ⟨bn, on + k, none⟩ = some (.int .u8 (nz k))) :
    Calls Try.prog 10 #[.slice (some ⟨bk, ok, none⟩) 32 ck, .int .u32 c, .slice (some ⟨bn, on, none⟩) 12 cn] w fun e w' => e = .returned (.tuple #[.agg ((blockL kz c nz).map (Value.int .u8)).toArray, .int .i64 0]) ∧ Below w.heap.size w w' := by
  have kc := fun (w : World) (C : Array Value) (n c : Nat) => Lib.run_convert_bytes_const (P := Try.prog) w 22 5 C n c Try.underlying22 Try.underlying5
  go_enter Try.func10, Try.ntmps10
  go_wp2_with fail
  go_loopw [26] (fun u wr => ∃ k : Nat, k ≤ 4 ∧ u = .int .i64 k ∧ IRow wr (w.heap.size + 1 + 1) 47 .u32 (fills cst 0 zero16 k) ∧ IRow wr (w.heap.size + 1) 27 .u8 (List.replicate 64 0) ∧ IRow wr w.heap.size 27 .u8 (List.replicate 64 0) ∧ Below w.heap.size w wr) (fun u _ => 4 - (intOf u).toNat)
  case atStart => exact ⟨0, by omega, rfl, (by repeat (first | ((with_reducible refine IRow.new' ?_ ?_); (focus (simp; done)); rfl) | (with_reducible refine IRow.alloc ?_ _) | (with_reducible refine IRow.drew ?_))), (by repeat (first | ((with_reducible refine IRow.new' ?_ ?_); (focus (simp; done)); rfl) | (with_reducible refine IRow.alloc ?_ _) | (with_reducible refine IRow.drew ?_))), (by repeat (first | ((with_reducible refine IRow.new' ?_ ?_); (focus (simp; done)); rfl) | (with_reducible refine IRow.alloc ?_ _) | (with_reducible refine IRow.drew ?_))), (by repeat (first | (with_reducible exact Below.refl _ _) | (with_reducible refine bel_drew ?_) | (with_reducible refine bel_alloc ?_ _)))⟩
  case round =>
    obtain ⟨k, hk9, rfl, hr, hv, ho, hbel⟩ := hrel
    by_cases hlt : k < 4
    · go_wp2_with fail
      have hx : ∀ j, j < 4 → (wr.alloc (Obj.cells (expand.map (Value.int .u8)).toArray 5 (16, 17))).cell? ⟨wr.heap.size, 4 * k + j, none⟩ = some (.int .u8 (expand.getD (4 * k + j) 0)) := fun j hj => by
        rw [cell_of_row _ _ _ _ _ _ (heap_alloc_new wr _)]
        have : 4 * k + j < expand.length := by simp [expand]; omega
        simp [List.getD, this]
      refine (word4_calls wr.heap.size (4 * k) (16 - 4 * k) (fun j => expand.getD (4 * k + j) 0) (fun j => expand_bd _) _ hx).mono ?_
      clear hx
      rintro e w1 ⟨rfl, hb1⟩
      have hb2 : Below wr.heap.size wr w1 := below_S (bel_alloc (Below.refl _ _) _) hb1
      replace hr := hr.belowS hb2
      replace hv := hv.belowS hb2
      replace ho := ho.belowS hb2
      replace hbel := below_S hbel hb2
      clear hb1 hb2
      have f1 := hr.frozen k
      have l1 := hr.cell (k := k) (by rw [fills_len]; simp [zero16]; omega)
      have hyb : (le4 fun j => expand.getD (4 * k + j) 0) % 4294967296 = (le4 fun j => expand.getD (4 * k + j) 0) := mod32 (le4_bd fun j => expand_bd _)
      generalize hy : (le4 fun j => expand.getD (4 * k + j) 0) = y at hyb ⊢
      go_wp2_with fail
      go_roundw
      case rel => exact ⟨k + 1, by omega, by go_num, (by have h9 := hr.set k y; rw [show fills cst 0 zero16 (k + 1) = (fills cst 0 zero16 k).set k y by simp [fills, ← hy, cst]]; exact h9), hv.setO (p := ⟨w.heap.size + 1 + 1, _, none⟩) (Nat.ne_of_lt (by show _ < w.heap.size + 1 + 1; omega)) _, ho.setO (p := ⟨w.heap.size + 1 + 1, _, none⟩) (Nat.ne_of_lt (by show _ < w.heap.size + 1 + 1; omega)) _, bel_set hbel (by simp; omega) _⟩
      case measure => simp [intOf]; omega
    · obtain rfl : k = 4 := by omega
      clear hk9 hlt
      rw [show ((4 : Nat) : Int) = 4 from rfl]
      go_wp2_with fail
      go_loopw [42] (fun u wr => ∃ k : Nat, k ≤ 8 ∧ u = .int .i64 k ∧ IRow wr (w.heap.size + 1 + 1) 47 .u32 (fills (kw kz) 4 (fills cst 0 zero16 4) k) ∧ IRow wr (w.heap.size + 1) 27 .u8 (List.replicate 64 0) ∧ IRow wr w.heap.size 27 .u8 (List.replicate 64 0) ∧ Below w.heap.size w wr) (fun u _ => 8 - (intOf u).toNat)
      case atStart => exact ⟨0, by omega, rfl, hr, hv, ho, hbel⟩
      clear hr hv ho hbel
      case round =>
        obtain ⟨k, hk9, rfl, hr, hv, ho, hbel⟩ := hrel
        by_cases hlt : k < 8
        · go_wp2_with fail
          have hx : ∀ j, j < 4 → wr.cell? ⟨bk, ok + 4 * k + j, none⟩ = some (.int .u8 (kz (4 * k + j))) := fun j hj => by
            rw [Nat.add_assoc]
            exact (hbel.cell (by assumption)).trans (hK (4 * k + j) (by omega))
          refine (word4_calls bk (ok + 4 * k) (ck - 4 * k) (fun j => kz (4 * k + j)) (fun j => hk _) _ hx).mono ?_
          clear hx
          rintro e w1 ⟨rfl, hb1⟩
          replace hr := hr.belowS hb1
          replace hv := hv.belowS hb1
          replace ho := ho.belowS hb1
          replace hbel := below_S hbel hb1
          clear hb1
          have f1 := hr.frozen (4 + k)
          have l1 := hr.cell (k := 4 + k) (by rw [fills_len]; simp [fills_len, zero16]; omega)
          have hyb : (le4 fun j => kz (4 * k + j)) % 4294967296 = (le4 fun j => kz (4 * k + j)) := mod32 (le4_bd fun j => hk _)
          generalize hy : (le4 fun j => kz (4 * k + j)) = y at hyb ⊢
          go_wp2_with fail
          
          go_roundw
          case rel => exact ⟨k + 1, by omega, by go_num, (by have h9 := hr.set (4 + k) y; rw [← hy] at h9 ⊢; exact h9), hv.setO (p := ⟨w.heap.size + 1 + 1, _, none⟩) (Nat.ne_of_lt (by show _ < w.heap.size + 1 + 1; omega)) _, ho.setO (p := ⟨w.heap.size + 1 + 1, _, none⟩) (Nat.ne_of_lt (by show _ < w.heap.size + 1 + 1; omega)) _, bel_set hbel (by simp; omega) _⟩
          case measure => simp [intOf]; omega
        · obtain rfl : k = 8 := by omega
          clear hk9 hlt
          rw [show ((8 : Nat) : Int) = 8 from rfl]
          -- the counter
          have f1 := hr.frozen 12
          have l1 := hr.cell (k := 12) (by rw [fills_len]; simp [fills_len, zero16])
          go_wp2_with fail
          go_loopw [60] (fun u wr => ∃ k : Nat, k ≤ 3 ∧ u = .int .i64 k ∧ IRow wr (w.heap.size + 1 + 1) 47 .u32 (fills (kw nz) 13 ((fills (kw kz) 4 (fills cst 0 zero16 4) 8).set 12 c) k) ∧ IRow wr (w.heap.size + 1) 27 .u8 (List.replicate 64 0) ∧ IRow wr w.heap.size 27 .u8 (List.replicate 64 0) ∧ Below w.heap.size w wr) (fun u _ => 3 - (intOf u).toNat)
          case atStart => exact ⟨0, by omega, rfl, hr.set _ _, hv.setO (p := ⟨w.heap.size + 1 + 1, _, none⟩) (Nat.ne_of_lt (by show _ < w.heap.size + 1 + 1; omega)) _, ho.setO (p := ⟨w.heap.size + 1 + 1, _, none⟩) (Nat.ne_of_lt (by show _ < w.heap.size + 1 + 1; omega)) _, bel_set hbel (by simp; omega) _⟩
          clear hr hv ho hbel
          case round =>
            obtain ⟨k, hk9, rfl, hr, hv, ho, hbel⟩ := hrel
            by_cases hlt : k < 3
            · go_wp2_with fail
              have hx : ∀ j, j < 4 → wr.cell? ⟨bn, on + 4 * k + j, none⟩ = some (.int .u8 (nz (4 * k + j))) := fun j hj => by
                rw [Nat.add_assoc]
                exact (hbel.cell (by assumption)).trans (hN (4 * k + j) (by omega))
              refine (word4_calls bn (on + 4 * k) (cn - 4 * k) (fun j => nz (4 * k + j)) (fun j => hn _) _ hx).mono ?_
              clear hx
              rintro e w1 ⟨rfl, hb1⟩
              replace hr := hr.belowS hb1
              replace hv := hv.belowS hb1
              replace ho := ho.belowS hb1
              replace hbel := below_S hbel hb1
              clear hb1
              have f1 := hr.frozen (13 + k)
              have l1 := hr.cell (k := 13 + k) (by rw [fills_len]; simp [fills_len, zero16]; omega)
              have hyb : (le4 fun j => nz (4 * k + j)) % 4294967296 = (le4 fun j => nz (4 * k + j)) := mod32 (le4_bd fun j => hn _)
              generalize hy : (le4 fun j => nz (4 * k + j)) = y at hyb ⊢
              go_wp2_with fail
              
              go_roundw
              case rel => exact ⟨k + 1, by omega, by go_num, (by have h9 := hr.set (13 + k) y; rw [← hy] at h9 ⊢; exact h9), hv.setO (p := ⟨w.heap.size + 1 + 1, _, none⟩) (Nat.ne_of_lt (by show _ < w.heap.size + 1 + 1; omega)) _, ho.setO (p := ⟨w.heap.size + 1 + 1, _, none⟩) (Nat.ne_of_lt (by show _ < w.heap.size + 1 + 1; omega)) _, bel_set hbel (by simp; omega) _⟩
              case measure => simp [intOf]; omega
            · obtain rfl : k = 3 := by omega
              clear hk9 hlt
              rw [show ((3 : Nat) : Int) = 3 from rfl]
              replace hr : IRow wr (w.heap.size + 1 + 1) 47 .u32 (stp kz c nz) := hr
              have hA := stp_A hk hn hc
              have hAs := hA
              have hl16 : (stp kz c nz).length = 16 := hA.len
              have hnew : IRow (wr.alloc (.cells (zero16.map (Value.int .u32)).toArray 47)) wr.heap.size 47 .u32 zero16 := IRow.new rfl
              have h3 : w.heap.size + 1 + 1 < wr.heap.size := hr.lt
              obtain ⟨g, hg⟩ : ∃ g, g = wr.heap.size := ⟨_, rfl⟩
              go_wp2_with (first
                | (refine wpList_load_vrow rfl rfl rfl hr Try.underlying47 rfl (by rw [List.length_map, hl16]; kernel_rfl) ?_; simp only [Act.put, List.setIfInBounds_toArray, List.set_cons_zero, List.set_cons_succ])
                | (refine wpList_store_row rfl 47 _ _ rfl _ _ rfl rfl 47 _ hnew (by rw [List.size_toArray, List.length_map, hl16]; kernel_rfl) (by simp [hl16, zero16]) ?c1 ?_; (case c1 => simp [Value.oneCell'])))
              have hBI : BI w ((wr.alloc (.cells (zero16.map (Value.int .u32)).toArray 47)).setRow wr.heap.size ((stp kz c nz).map (Value.int .u32)).toArray) g (stp kz c nz) (stp kz c nz) (List.replicate 64 0) :=
                ⟨by rw [hg]; exact VRow.setRow hnew _, (hr.alloc _).setRowO (by omega) _, (hv.alloc _).setRowO (by omega) _, (ho.alloc _).setRowO (by omega) _, bel_setRow (bel_alloc hbel _) (by omega) _, by omega⟩
              rw [← hg] at hBI ⊢
              clear hg h3
              clear hr hv ho hbel hnew
              go_loopw [77] (fun u wr => ∃ k : Nat, k ≤ 10 ∧ u = .int .i64 k ∧ BI w wr g (stp kz c nz) (drs (stp kz c nz) k) (List.replicate 64 0)) (fun u _ => 10 - (intOf u).toNat)
              case atStart => exact ⟨0, by omega, rfl, hBI⟩
              clear hBI
              case round =>
                obtain ⟨k, hk9, rfl, hBI⟩ := hrel
                have hA := hA.drs k
                by_cases hlt : k < 10
                · generalize hD : drs (stp kz c nz) k = D at hBI hA
                  go_wp2_with fail
                  refine wp_loop_rounds 5 ?_
                  rw [rounds_succ]
                  go_wp2_with fail
                  with_reducible refine (quarter_at g 47 _ 0 4 8 12 0 4 8 12 (by decide) (by decide) (by decide) (by decide) (by decide) (by decide) (by decide) (by decide) hA _ hBI.ht).mono ?_
                  rintro e w1 ⟨rfl, ht1, hg1⟩
                  replace hBI := hBI.step ht1 hg1
                  replace hA := hA.qr 0 4 8 12
                  clear ht1 hg1
                  go_wp2_with fail
                  rw [rounds_succ]
                  go_wp2_with fail
                  with_reducible refine (quarter_at g 47 _ 1 5 9 13 1 5 9 13 (by decide) (by decide) (by decide) (by decide) (by decide) (by decide) (by decide) (by decide) hA _ hBI.ht).mono ?_
                  rintro e w1 ⟨rfl, ht1, hg1⟩
                  replace hBI := hBI.step ht1 hg1
                  replace hA := hA.qr 1 5 9 13
                  clear ht1 hg1
                  go_wp2_with fail
                  rw [rounds_succ]
                  go_wp2_with fail
                  with_reducible refine (quarter_at g 47 _ 2 6 10 14 2 6 10 14 (by decide) (by decide) (by decide) (by decide) (by decide) (by decide) (by decide) (by decide) hA _ hBI.ht).mono ?_
                  rintro e w1 ⟨rfl, ht1, hg1⟩
                  replace hBI := hBI.step ht1 hg1
                  replace hA := hA.qr 2 6 10 14
                  clear ht1 hg1
                  go_wp2_with fail
                  rw [rounds_succ]
                  go_wp2_with fail
                  with_reducible refine (quarter_at g 47 _ 3 7 11 15 3 7 11 15 (by decide) (by decide) (by decide) (by decide) (by decide) (by decide) (by decide) (by decide) hA _ hBI.ht).mono ?_
                  rintro e w1 ⟨rfl, ht1, hg1⟩
                  replace hBI := hBI.step ht1 hg1
                  replace hA := hA.qr 3 7 11 15
                  clear ht1 hg1
                  go_wp2_with fail
                  rw [rounds_succ]
                  go_wp2_with fail
                  refine wp_loop_rounds 5 ?_
                  rw [rounds_succ]
                  go_wp2_with fail
                  with_reducible refine (quarter_at g 47 _ 0 5 10 15 0 5 10 15 (by decide) (by decide) (by decide) (by decide) (by decide) (by decide) (by decide) (by decide) hA _ hBI.ht).mono ?_
                  rintro e w1 ⟨rfl, ht1, hg1⟩
                  replace hBI := hBI.step ht1 hg1
                  replace hA := hA.qr 0 5 10 15
                  clear ht1 hg1
                  go_wp2_with fail
                  rw [rounds_succ]
                  go_wp2_with fail
                  with_reducible refine (quarter_at g 47 _ 1 6 11 12 1 6 11 12 (by decide) (by decide) (by decide) (by decide) (by decide) (by decide) (by decide) (by decide) hA _ hBI.ht).mono ?_
                  rintro e w1 ⟨rfl, ht1, hg1⟩
                  replace hBI := hBI.step ht1 hg1
                  replace hA := hA.qr 1 6 11 12
                  clear ht1 hg1
                  go_wp2_with fail
                  rw [rounds_succ]
                  go_wp2_with fail
                  with_reducible refine (quarter_at g 47 _ 2 7 8 13 2 7 8 13 (by decide) (by decide) (by decide) (by decide) (by decide) (by decide) (by decide) (by decide) hA _ hBI.ht).mono ?_
                  rintro e w1 ⟨rfl, ht1, hg1⟩
                  replace hBI := hBI.step ht1 hg1
                  replace hA := hA.qr 2 7 8 13
                  clear ht1 hg1
                  go_wp2_with fail
                  rw [rounds_succ]
                  go_wp2_with fail
                  with_reducible refine (quarter_at g 47 _ 3 4 9 14 3 4 9 14 (by decide) (by decide) (by decide) (by decide) (by decide) (by decide) (by decide) (by decide) hA _ hBI.ht).mono ?_
                  rintro e w1 ⟨rfl, ht1, hg1⟩
                  replace hBI := hBI.step ht1 hg1
                  replace hA := hA.qr 3 4 9 14
                  clear ht1 hg1
                  go_wp2_with fail
                  rw [rounds_succ]
                  go_wp2_with fail
                  go_roundw
                  case rel => exact ⟨k + 1, by omega, by go_num, by rw [drs, hD]; exact hBI⟩
                  case measure => simp [intOf]; omega
                · obtain rfl : k = 10 := by omega
                  clear hk9 hlt
                  rw [show ((10 : Nat) : Int) = 10 from rfl]
                  generalize hD : drs (stp kz c nz) 10 = D at hBI hA
                  have HD : Unit → drs (stp kz c nz) 10 = D := fun _ => hD
                  clear hD
                  go_wp2_with fail
                  go_loopw [110] (fun u wr => ∃ k : Nat, k ≤ 16 ∧ u = .int .i64 k ∧ BI w wr g (stp kz c nz) D (outs (stp kz c nz) D k)) (fun u _ => 16 - (intOf u).toNat)
                  case atStart => exact ⟨0, by omega, rfl, hBI⟩
                  clear hBI
                  case round =>
                    obtain ⟨k, hk9, rfl, hBI⟩ := hrel
                    by_cases hlt : k < 16
                    · have hsl := slice64 (w.heap.size + 1) k hlt
                      have l1 := hBI.ht.cell (k := k) (by rw [hA.len]; omega)
                      have l2 := hBI.hr.cell (k := k) (by rw [hl16]; omega)
                      have b1 := hA.wd k
                      have b2 := hAs.wd k
                      have hout : outs (stp kz c nz) D (k + 1) = put4 (outs (stp kz c nz) D k) (4 * k) (((stp kz c nz).getD k 0 + D.getD k 0) % 4294967296) := outs_succ _ _ _
                      generalize (stp kz c nz).getD k 0 = S1 at l2 b2 hout
                      generalize D.getD k 0 = D1 at l1 b1 hout
                      have hOut : Unit → outs (stp kz c nz) D (k + 1) = put4 (outs (stp kz c nz) D k) (4 * k) ((S1 + D1) % 4294967296) := fun _ => hout
                      clear hout
                      have b3 : 0 ≤ (S1 + D1) % 4294967296 ∧ (S1 + D1) % 4294967296 < 4294967296 := by omega
                      have b4 : (S1 + D1) % 4294967296 % 18446744073709551616 = (S1 + D1) % 4294967296 := by omega
                      go_wp2_with fail
                      refine wp_region_plan 14 14 [(.h, 0), (.h, 1), (.h, 2), (.h, 3), (.h, 4), (.h, 5), (.h, 6), (.h, 7), (.h, 8), (.h, 9), (.h, 10), (.h, 11), (.h, 12), (.h, 13), (.w, 14)] mixed (by kernel_rfl) (fun dst _ _ _ _ h => by cases dst <;> exact h) ?_
                      intro Q' K' hQ' hK'
                      simp only [planOps_cons, planOps_nil, getD_zero, getD_succ]
                      repeat (first
                        | (refine seqC_w (fun K hK => ?_); go_simp; go_at_call 23; (with_reducible refine (put4_calls (w.heap.size + 1) (4 * k) _ 27 (outs (stp kz c nz) D k) _ b3.1 (by rw [outs_len]; omega) _ (IRow.drew hBI.hv)).mono ?_); rintro e w1 ⟨rfl, hv1, hg1⟩; have hBI1 := hBI.put hv1 hg1; refine hK _ _ ?_; clear hv1 hg1 hK K)
                        | ((first | (with_reducible refine seqC_skip_h rfl ?_) | (with_reducible refine seqC_skip_p rfl ?_) | (with_reducible refine seqC_skip_e rfl ?_) | (with_reducible refine seqC_skip_w rfl ?_) | (with_reducible refine seqC_skip_b hB rfl ?_)); (try simp only [Act.put, List.setIfInBounds_toArray, List.set_cons_zero, List.set_cons_succ]))
                        | (refine seqC_h (fun K hK => ?_); go_simp; (try go_bits); refine hK _ ?_; clear hK K)
                        | (refine seqC_p (v := ?_) rfl (fun w' => ?_) ?_; rotate_left; go_simp; (try go_bits); (with_reducible rfl); (try simp only [Act.put, List.setIfInBounds_toArray, List.set_cons_zero, List.set_cons_succ]))
                        | (refine seqC_e (v := ?_) rfl (fun w' hb' => ?_) ?_; rotate_left; (have hb1 := (bcell hb').1; clear hb'; go_simp; (try go_bits)); (with_reducible rfl); (try simp only [Act.put, List.setIfInBounds_toArray, List.set_cons_zero, List.set_cons_succ]))
                        | (refine seqC_w (fun K hK => ?_); go_simp; (try go_bits); refine hK _ _ ?_; clear hK K))
                      refine seqC_nil (hK' _ _ ?_)
                      clear hK' K' hQ' Q'
                      go_wp2_with fail
                      go_roundw
                      case rel => exact ⟨k + 1, by omega, by go_num, by rw [hOut ()]; exact hBI1⟩
                      case measure => simp [intOf]; omega
                    · obtain rfl : k = 16 := by omega
                      clear hk9 hlt
                      rw [show ((16 : Nat) : Int) = 16 from rfl]
                      have hlo : (outs (stp kz c nz) D 16).length = 64 := outs_len _ _ _
                      have hbl : blockL kz c nz = outs (stp kz c nz) D 16 := by unfold blockL; rw [HD ()]

                      generalize outs (stp kz c nz) D 16 = L at hlo hBI hbl
                      have hv := hBI.hv
                      have ho := hBI.ho
                      go_wp2_with (first
                        | (refine wpList_load_vrow rfl rfl rfl hv Try.underlying27 rfl (by rw [List.length_map, hlo]; kernel_rfl) ?_; simp only [Act.put, List.setIfInBounds_toArray, List.set_cons_zero, List.set_cons_succ])
                        | (refine wpList_store_row rfl 27 _ _ rfl _ _ rfl rfl 27 _ ho (by rw [List.size_toArray, List.length_map, hlo]; kernel_rfl) (by simp [hlo]) ?c1 ?_; (case c1 => simp [Value.oneCell'])))
                      refine bodyPost_ret (results_vrow_tmp rfl _ _ _ 27 _ _ rfl (VRow.setRow ho _) Try.underlying27 rfl (by rw [List.length_map, hlo]; kernel_rfl)) rfl ⟨by rw [hbl]; rfl, bel_setRow hBI.hbel (Nat.le_refl _) _⟩
end Go.Proofs.Ytddiamocnkffjaa
