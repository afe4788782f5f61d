import Derived.Test.YtddiamocnkffjaaG
import Derived.Test.YtddiamocnkffjaaK4
import Derived.Laws.OwnMore
import Derived.Deep.AppendLies
import Derived.Deep.Onto
import Derived.OwnWalk
namespace Go.Proofs.Ytddiamocnkffjaa
open Go.RowKit Go.Proofs Go.Proofs.MyK
set_option linter.unusedSimpArgs false
set_option linter.unusedVariables false
theorem infoByte : (Try.prog.info? 5).map (fun i => (i.zero, i.size, i.bytes)) = some (some (.int .u8 0), 1, 1) := by kernel_rfl
def rs (nz : Nat → Int) : Nat → List Int
  | 0 => zero16
  | k + 1 => if k = 0 then (rs nz k).set k (cst k) else ((rs nz k).set k (cst k)).set (12 + k) (kw nz (k - 1))
theorem rs_len (nz : Nat → Int) : ∀ k, (rs nz k).length = 16
  | 0 => rfl
  | k + 1 => by rw [rs]; split <;> simp [rs_len nz k]
theorem rs_eq (kz : Nat → Int) (c : Int) (nz : Nat → Int) : (fills (kw kz) 4 (rs nz 4) 8).set 12 c = stp kz c nz := by kernel_rfl
/-- So many half rounds. -/
def hrs (s : List Int) : Nat → List Int
  | 0 => s
  | k + 1 => if k % 2 = 0 then qr (qr (qr (qr (hrs s k) 0 4 8 12) 1 5 9 13) 2 6 10 14) 3 7 11 15 else qr (qr (qr (qr (hrs s k) 0 5 10 15) 1 6 11 12) 2 7 8 13) 3 4 9 14
theorem hrs_even (s : List Int) : ∀ k, hrs s (2 * k) = drs s k
  | 0 => rfl
  | k + 1 => by
    rw [show 2 * (k + 1) = 2 * k + 1 + 1 by omega, hrs, if_neg (by omega), hrs, if_pos (by omega), hrs_even s k]; rfl
theorem hrs_A {s : List Int} (h : A32 s) : ∀ k, A32 (hrs s k)
  | 0 => h
  | k + 1 => by
    rw [hrs]
    split
    · exact ((((hrs_A h k).qr _ _ _ _).qr _ _ _ _).qr _ _ _ _).qr _ _ _ _
    · exact ((((hrs_A h k).qr _ _ _ _).qr _ _ _ _).qr _ _ _ _).qr _ _ _ _
def b4 (x : Int) : List Int := [x % 256, x / 256 % 256, x / 65536 % 256, x / 16777216 % 256]
/-- The bytes, as the document lays them. -/
def routs (s t : List Int) : Nat → List Int
  | 0 => []
  | k + 1 => routs s t k ++ b4 (s.getD k 0 + t.getD k 0)
theorem routs_len (s t : List Int) : ∀ k, (routs s t k).length = 4 * k
  | 0 => rfl
  | k + 1 => by rw [routs, List.length_append, routs_len s t k]; simp [b4]; omega
theorem routs_succ (s t : List Int) (k : Nat) : routs s t (k + 1) = routs s t k ++ b4 (s.getD k 0 + t.getD k 0) := by rw [routs]
structure RI (w W : World) (g : Nat) (s t : List Int) : Prop where
  ht : IRow W g 53 .u64 t
  hr : IRow W (w.heap.size + 1) 53 .u64 s
  hbel : Below w.heap.size w W
  hlt : w.heap.size + 1 < g
theorem RI.belowS {w W w1 : World} {g : Nat} {s t : List Int} (h : RI w W g s t) (hb : Below W.heap.size W w1) : RI w w1 g s t :=
  ⟨h.ht.belowS hb, h.hr.belowS hb, below_S h.hbel hb, h.hlt⟩
theorem RI.put {w W : World} {g : Nat} {s t : List Int} (h : RI w W g s t) (a b c d : Nat) : RI w (W.setRow g ((qr t a b c d).map (Value.int .u64)).toArray) g s (qr t a b c d) :=
  ⟨IRow.setRow h.ht _, h.hr.setRowO (by have := h.hlt; omega) _, bel_setRow h.hbel (by have := h.hlt; omega) _, h.hlt⟩
theorem RI.grown {w W w1 : World} {g : Nat} {s t : List Int} (h : RI w W g s t) {r : Option Nat} (hg : W.grownBy w1 r) {B : Nat} (hr : ∀ k, r = some k → B ≤ k) (hB : g < B) (hw : w.heap.size ≤ B) : RI w w1 g s t :=
  ⟨h.ht.grown hg (fun e => by have := hr _ e.symm; omega), h.hr.grown hg (fun e => by have := hr _ e.symm; have := h.hlt; omega), h.hbel.grown hg h.hbel.size (fun k hk => by have := hr k hk; omega), h.hlt⟩
def rblockL (kz : Nat → Int) (c : Int) (nz : Nat → Int) : List Int := routs (stp kz c nz) (drs (stp kz c nz) 10) 16
theorem rquarter_at (s0 : List Int) (a b c d : Nat) (ia ib ic id : Int) (ea : ia = (a : Int)) (eb : ib = (b : Int)) (ec : ic = (c : Int)) (ed : id = (d : Int)) (ha : a < 16) (hb : b < 16) (hc : c < 16) (hd : d < 16) (hs0 : A32 s0) (w : World) :
    Calls Try.prog 25 #[.agg (s0.map (Value.int .u64)).toArray, .int .i64 ia, .int .i64 ib, .int .i64 ic, .int .i64 id] w fun e w' => e = .returned (.agg ((qr s0 a b c d).map (Value.int .u64)).toArray) ∧ Below w.heap.size w w' := by
  subst ea eb ec ed
  exact rquarter_calls s0 a b c d ha hb hc hd hs0 w
set_option maxRecDepth 4000 in
set_option maxHeartbeats 8000000 in
theorem rblock_calls (bk ok nk ck bn on nn cn : Nat) (kz nz : Nat → Int) (c : Int) (w : World) (hk : ∀ k, 0 ≤ kz k ∧ kz k < 256) (hn : ∀ k, 0 ≤ nz k ∧ nz k < 256) (hc : W32 c)
    (nk32 : 32 ≤ nk) (nn12 : 12 ≤ nn) (ck32 : nk ≤ ck) (cn12 : nn ≤ cn) (hK : At w bk ok 32 kz) (hN : At w bn on 12 nz) :
    Calls Try.prog 12 #[.slice (some ⟨bk, ok, none⟩) nk ck, .int .u32 c, .slice (some ⟨bn, on, none⟩) nn cn] w fun e w' => (∃ v, e = .returned v ∧ w'.ownsRow w.heap.size 5 1 v 64 ((rblockL kz c nz).map (Value.int .u8))) ∧ Below w.heap.size w w' := by
  obtain ⟨i0, hi, hz0, hz1, hz2⟩ := info_parts infoByte
  have kc := fun (w : World) (C : Array Value) (n c : Nat) => Lib.run_convert_bytes_const (P := Try.prog) w 22 5 C n c Try.underlying22 Try.underlying5
  have hbk := hK.lt
  have hbn := hN.lt
  go_enter Try.func12, Try.ntmps12
  go_wp2_with fail
  go_loopw [9] (fun u wr => ∃ k : Nat, k ≤ 4 ∧ u = .int .i64 k ∧ IRow wr (w.heap.size + 1) 53 .u64 (rs nz k) ∧ At wr w.heap.size 0 16 (fun k => expand.getD k 0) ∧ Below w.heap.size w wr) (fun u _ => 4 - (intOf u).toNat)
  case atStart => exact ⟨0, by omega, rfl, (by repeat (first | ((with_reducible refine IRow.new' ?_ ?_); (focus (simp; done)); rfl) | (with_reducible refine IRow.alloc ?_ _) | (with_reducible refine IRow.drew ?_))), At.alloc (At.new (l := expand) rfl (by decide)) _, (by repeat (first | (with_reducible exact Below.refl _ _) | (with_reducible refine bel_drew ?_) | (with_reducible refine bel_alloc ?_ _)))⟩
  case round =>
    obtain ⟨k, hk9, rfl, hr, hh, hbel⟩ := hrel
    by_cases hlt : k < 4
    · go_wp2_with fail
      have hx := fun j (hj : j < 4) => (hh.sub (4 * k) 4 (by omega)).cell j hj
      simp only [Nat.zero_add] at hx
      refine (rword_calls w.heap.size (4 * k) (16 - 4 * k) _ (by omega) (fun j => expand.getD (4 * k + j) 0) (fun j => expand_bd _) _ hx).mono ?_
      clear hx
      rintro e w1 ⟨rfl, hb1⟩
      replace hr := hr.belowS hb1
      replace hh := hh.belowS hb1
      replace hbel := below_S hbel hb1
      clear hb1
      have f1 := hr.frozen k
      have l1 := hr.cell (k := k) (by rw [rs_len]; omega)
      have hyb : (le4 fun j => expand.getD (4 * k + j) 0) = cst k := rfl
      rw [hyb]
      clear hyb
      generalize hy : cst k = y
      by_cases hk0 : k = 0
      · subst hk0
        go_wp2_with fail
        go_roundw
        case rel => exact ⟨0 + 1, by omega, by go_num, (by have h9 := hr.set 0 y; rw [← hy] at h9 ⊢; exact h9), hh.setO (by omega) _ _, bel_set hbel (by simp) _⟩
        case measure => simp [intOf]
      · go_wp2_with fail
        have hr1 := hr.set k y
        have hh1 := hh.setO (b := w.heap.size + 1) (by omega) k (.int .u64 y)
        have hbel1 := bel_set hbel (p := ⟨w.heap.size + 1, k, none⟩) (by simp) (.int .u64 y)
        have hx : ∀ j, j < 4 → (w1.setCell ⟨w.heap.size + 1, k, none⟩ (.int .u64 y)).cell? ⟨bn, on + (4 * k - 4) + j, none⟩ = some (.int .u8 (nz (4 * (k - 1) + j))) := fun j hj => by
          have hq := (hN.below hbel1 hbn).cell (4 * (k - 1) + j) (by omega)
          rw [show on + (4 * k - 4) + j = on + (4 * (k - 1) + j) by omega]
          exact hq
        refine (rword_calls bn (on + (4 * k - 4)) (nn - (4 * k - 4)) _ (by omega) (fun j => nz (4 * (k - 1) + j)) (fun j => hn _) _ hx).mono ?_
        clear hx hr hh hbel f1 l1
        rintro e w2 ⟨rfl, hb1⟩
        have hr := hr1.belowS hb1
        have hh := hh1.belowS hb1
        have hbel := below_S hbel1 hb1
        clear hb1 hr1 hh1 hbel1
        have f1 := hr.frozen (12 + k)
        have l1 := hr.cell (k := 12 + k) (by rw [List.length_set, rs_len]; omega)
        generalize hy2 : (le4 fun j => nz (4 * (k - 1) + j)) = y2
        go_wp2_with fail
        go_roundw
        case rel => exact ⟨k + 1, by omega, by go_num, (by have h9 := hr.set (12 + k) y2; rw [← hy2, ← hy] at h9; rw [← hy2, rs, if_neg hk0]; exact h9), hh.setO (by omega) _ _, bel_set hbel (by simp) _⟩
        case measure => simp [intOf]; omega
    · obtain rfl : k = 4 := by omega
      clear hk9 hlt
      rw [show ((4 : Nat) : Int) = 4 from rfl]
      go_wp2_with fail
      go_loopw [10] (fun u wr => ∃ k : Nat, k ≤ 8 ∧ u = .int .i64 k ∧ IRow wr (w.heap.size + 1) 53 .u64 (fills (kw kz) 4 (rs nz 4) k) ∧ Below w.heap.size w wr) (fun u _ => 8 - (intOf u).toNat)
      case atStart => exact ⟨0, by omega, rfl, hr, hbel⟩
      clear hr hh hbel
      case round =>
        obtain ⟨k, hk9, rfl, hr, hbel⟩ := hrel
        by_cases hlt : k < 8
        · go_wp2_with fail
          have hx := fun j (hj : j < 4) => (((hK.below hbel hbk).sub (4 * k) 4 (by omega)).cell j hj)
          refine (rword_calls bk (ok + 4 * k) (nk - 4 * k) _ (by omega) (fun j => kz (4 * k + j)) (fun j => hk _) _ hx).mono ?_
          clear hx
          rintro e w1 ⟨rfl, hb1⟩
          replace hr := hr.belowS hb1
          replace hbel := below_S hbel hb1
          clear hb1
          have f1 := hr.frozen (4 + k)
          have l1 := hr.cell (k := 4 + k) (by rw [fills_len, rs_len]; omega)
          generalize hy : (le4 fun j => kz (4 * k + j)) = y
          go_wp2_with fail
          go_roundw
          case rel => exact ⟨k + 1, by omega, by go_num, (by have h9 := hr.set (4 + k) y; rw [← hy] at h9 ⊢; exact h9), bel_set hbel (by simp) _⟩
          case measure => simp [intOf]; omega
        · obtain rfl : k = 8 := by omega
          clear hk9 hlt
          rw [show ((8 : Nat) : Int) = 8 from rfl]
          have f1 := hr.frozen 12
          have l1 := hr.cell (k := 12) (by rw [fills_len, rs_len]; omega)
          have hc0 : c % 18446744073709551616 = c := by have := hc.1; have := hc.2; omega
          have hA := stp_A hk hn hc
          have hl16 : (stp kz c nz).length = 16 := hA.len
          have hr2 : IRow (wr.setCell ⟨w.heap.size + 1, 12, none⟩ (.int .u64 c)) (w.heap.size + 1) 53 .u64 (stp kz c nz) := by rw [← rs_eq]; exact hr.set 12 c
          have hbel2 := bel_set hbel (p := ⟨w.heap.size + 1, 12, none⟩) (by simp) (.int .u64 c)
          have hnew : IRow ((wr.setCell ⟨w.heap.size + 1, 12, none⟩ (.int .u64 c)).alloc (.cells (zero16.map (Value.int .u64)).toArray 53)) wr.heap.size 53 .u64 zero16 := IRow.new (by simp)
          go_wp2_with (first
            | (refine wpList_load_vrow rfl rfl rfl hr2 Try.underlying53 rfl (by rw [List.length_map, hl16]; kernel_rfl) ?_; simp only [Act.put, List.setIfInBounds_toArray, List.set_cons_zero, List.set_cons_succ])
            | (refine wpList_store_row rfl 53 _ _ rfl _ _ rfl rfl 53 _ hnew (by rw [List.size_toArray, List.length_map, hl16]; kernel_rfl) (by simp [hl16, zero16]) ?c1 ?_; (case c1 => simp [Value.oneCell'])))
          obtain ⟨g, hg⟩ : ∃ g, g = wr.heap.size := ⟨_, rfl⟩
          have hRI : RI w (((wr.setCell ⟨w.heap.size + 1, 12, none⟩ (.int .u64 c)).alloc (.cells (zero16.map (Value.int .u64)).toArray 53)).setRow wr.heap.size ((stp kz c nz).map (Value.int .u64)).toArray) g (stp kz c nz) (stp kz c nz) :=
            ⟨by rw [hg]; exact VRow.setRow hnew _, (hr2.alloc _).setRowO (by have := hr.lt; omega) _, bel_setRow (bel_alloc hbel2 _) (by have := hr.lt; omega) _, by have := hr.lt; omega⟩
          rw [← hg] at hRI ⊢
          clear hg hr hbel f1 l1 hc0 hr2 hbel2 hnew
          go_loopw [12] (fun u wr => ∃ k : Nat, k ≤ 20 ∧ u = .int .i64 k ∧ RI w wr g (stp kz c nz) (hrs (stp kz c nz) k)) (fun u _ => 20 - (intOf u).toNat)
          case atStart => exact ⟨0, by omega, rfl, hRI⟩
          clear hRI
          case round =>
            obtain ⟨k, hk9, rfl, hRI⟩ := hrel
            by_cases hlt : k < 20
            · have hA := hrs_A hA k
              have hnext : Unit → hrs (stp kz c nz) (k + 1) = _ := fun _ => by rw [hrs]
              generalize hD : hrs (stp kz c nz) k = D at hRI hA hnext
              clear hD
              by_cases hp : k % 2 = 0
              · have hpe : ((k : Int) % 2 == 0) = true := by rw [beq_iff_eq]; omega
                go_wp2_with fail
                refine wp_loop_rounds 5 ?_
                rw [rounds_succ]
                have ht := hRI.ht
                have hlen := hA.len
                go_wp2_with (first
                  | (refine wpList_load_vrow rfl rfl rfl ht Try.underlying53 rfl (by rw [List.length_map, hlen]; kernel_rfl) ?_; simp only [Act.put, List.setIfInBounds_toArray, List.set_cons_zero, List.set_cons_succ])
                  | ((with_reducible refine (rquarter_at _ 0 4 8 12 0 4 8 12 (by decide) (by decide) (by decide) (by decide) (by decide) (by decide) (by decide) (by decide) hA _).mono ?_); rintro e w1 ⟨rfl, hb1⟩; have hRI1 := hRI.belowS hb1; have ht1 := hRI1.ht; have hA1 := hA.qr 0 4 8 12; have hlen1 := hA1.len; clear hb1 hRI ht hA)
                  | (refine wpList_store_row rfl 53 _ _ rfl _ _ rfl rfl 53 _ ht1 (by rw [List.size_toArray, List.length_map, hlen1]; kernel_rfl) (by simp [hlen, hlen1]) ?c1 ?_; (case c1 => simp [Value.oneCell'])))
                have hRI := hRI1.put 0 4 8 12
                have hA := hA1
                clear hRI1 ht1 hA1 hlen hlen1
                rw [rounds_succ]
                have ht := hRI.ht
                have hlen := hA.len
                go_wp2_with (first
                  | (refine wpList_load_vrow rfl rfl rfl ht Try.underlying53 rfl (by rw [List.length_map, hlen]; kernel_rfl) ?_; simp only [Act.put, List.setIfInBounds_toArray, List.set_cons_zero, List.set_cons_succ])
                  | ((with_reducible refine (rquarter_at _ 1 5 9 13 1 5 9 13 (by decide) (by decide) (by decide) (by decide) (by decide) (by decide) (by decide) (by decide) hA _).mono ?_); rintro e w1 ⟨rfl, hb1⟩; have hRI1 := hRI.belowS hb1; have ht1 := hRI1.ht; have hA1 := hA.qr 1 5 9 13; have hlen1 := hA1.len; clear hb1 hRI ht hA)
                  | (refine wpList_store_row rfl 53 _ _ rfl _ _ rfl rfl 53 _ ht1 (by rw [List.size_toArray, List.length_map, hlen1]; kernel_rfl) (by simp [hlen, hlen1]) ?c1 ?_; (case c1 => simp [Value.oneCell'])))
                have hRI := hRI1.put 1 5 9 13
                have hA := hA1
                clear hRI1 ht1 hA1 hlen hlen1
                rw [rounds_succ]
                have ht := hRI.ht
                have hlen := hA.len
                go_wp2_with (first
                  | (refine wpList_load_vrow rfl rfl rfl ht Try.underlying53 rfl (by rw [List.length_map, hlen]; kernel_rfl) ?_; simp only [Act.put, List.setIfInBounds_toArray, List.set_cons_zero, List.set_cons_succ])
                  | ((with_reducible refine (rquarter_at _ 2 6 10 14 2 6 10 14 (by decide) (by decide) (by decide) (by decide) (by decide) (by decide) (by decide) (by decide) hA _).mono ?_); rintro e w1 ⟨rfl, hb1⟩; have hRI1 := hRI.belowS hb1; have ht1 := hRI1.ht; have hA1 := hA.qr 2 6 10 14; have hlen1 := hA1.len; clear hb1 hRI ht hA)
                  | (refine wpList_store_row rfl 53 _ _ rfl _ _ rfl rfl 53 _ ht1 (by rw [List.size_toArray, List.length_map, hlen1]; kernel_rfl) (by simp [hlen, hlen1]) ?c1 ?_; (case c1 => simp [Value.oneCell'])))
                have hRI := hRI1.put 2 6 10 14
                have hA := hA1
                clear hRI1 ht1 hA1 hlen hlen1
                rw [rounds_succ]
                have ht := hRI.ht
                have hlen := hA.len
                go_wp2_with (first
                  | (refine wpList_load_vrow rfl rfl rfl ht Try.underlying53 rfl (by rw [List.length_map, hlen]; kernel_rfl) ?_; simp only [Act.put, List.setIfInBounds_toArray, List.set_cons_zero, List.set_cons_succ])
                  | ((with_reducible refine (rquarter_at _ 3 7 11 15 3 7 11 15 (by decide) (by decide) (by decide) (by decide) (by decide) (by decide) (by decide) (by decide) hA _).mono ?_); rintro e w1 ⟨rfl, hb1⟩; have hRI1 := hRI.belowS hb1; have ht1 := hRI1.ht; have hA1 := hA.qr 3 7 11 15; have hlen1 := hA1.len; clear hb1 hRI ht hA)
                  | (refine wpList_store_row rfl 53 _ _ rfl _ _ rfl rfl 53 _ ht1 (by rw [List.size_toArray, List.length_map, hlen1]; kernel_rfl) (by simp [hlen, hlen1]) ?c1 ?_; (case c1 => simp [Value.oneCell'])))
                have hRI := hRI1.put 3 7 11 15
                have hA := hA1
                clear hRI1 ht1 hA1 hlen hlen1
                rw [rounds_succ]
                go_wp2_with fail
                go_roundw
                case rel => exact ⟨k + 1, by omega, by go_num, by rw [hnext (), if_pos hp]; exact hRI⟩
                case measure => simp [intOf]; omega
              · have hpe : ((k : Int) % 2 == 0) = false := by rw [beq_eq_false_iff_ne]; omega
                go_wp2_with fail
                refine wp_loop_rounds 5 ?_
                rw [rounds_succ]
                have ht := hRI.ht
                have hlen := hA.len
                go_wp2_with (first
                  | (refine wpList_load_vrow rfl rfl rfl ht Try.underlying53 rfl (by rw [List.length_map, hlen]; kernel_rfl) ?_; simp only [Act.put, List.setIfInBounds_toArray, List.set_cons_zero, List.set_cons_succ])
                  | ((with_reducible refine (rquarter_at _ 0 5 10 15 0 5 10 15 (by decide) (by decide) (by decide) (by decide) (by decide) (by decide) (by decide) (by decide) hA _).mono ?_); rintro e w1 ⟨rfl, hb1⟩; have hRI1 := hRI.belowS hb1; have ht1 := hRI1.ht; have hA1 := hA.qr 0 5 10 15; have hlen1 := hA1.len; clear hb1 hRI ht hA)
                  | (refine wpList_store_row rfl 53 _ _ rfl _ _ rfl rfl 53 _ ht1 (by rw [List.size_toArray, List.length_map, hlen1]; kernel_rfl) (by simp [hlen, hlen1]) ?c1 ?_; (case c1 => simp [Value.oneCell'])))
                have hRI := hRI1.put 0 5 10 15
                have hA := hA1
                clear hRI1 ht1 hA1 hlen hlen1
                rw [rounds_succ]
                have ht := hRI.ht
                have hlen := hA.len
                go_wp2_with (first
                  | (refine wpList_load_vrow rfl rfl rfl ht Try.underlying53 rfl (by rw [List.length_map, hlen]; kernel_rfl) ?_; simp only [Act.put, List.setIfInBounds_toArray, List.set_cons_zero, List.set_cons_succ])
                  | ((with_reducible refine (rquarter_at _ 1 6 11 12 1 6 11 12 (by decide) (by decide) (by decide) (by decide) (by decide) (by decide) (by decide) (by decide) hA _).mono ?_); rintro e w1 ⟨rfl, hb1⟩; have hRI1 := hRI.belowS hb1; have ht1 := hRI1.ht; have hA1 := hA.qr 1 6 11 12; have hlen1 := hA1.len; clear hb1 hRI ht hA)
                  | (refine wpList_store_row rfl 53 _ _ rfl _ _ rfl rfl 53 _ ht1 (by rw [List.size_toArray, List.length_map, hlen1]; kernel_rfl) (by simp [hlen, hlen1]) ?c1 ?_; (case c1 => simp [Value.oneCell'])))
                have hRI := hRI1.put 1 6 11 12
                have hA := hA1
                clear hRI1 ht1 hA1 hlen hlen1
                rw [rounds_succ]
                have ht := hRI.ht
                have hlen := hA.len
                go_wp2_with (first
                  | (refine wpList_load_vrow rfl rfl rfl ht Try.underlying53 rfl (by rw [List.length_map, hlen]; kernel_rfl) ?_; simp only [Act.put, List.setIfInBounds_toArray, List.set_cons_zero, List.set_cons_succ])
                  | ((with_reducible refine (rquarter_at _ 2 7 8 13 2 7 8 13 (by decide) (by decide) (by decide) (by decide) (by decide) (by decide) (by decide) (by decide) hA _).mono ?_); rintro e w1 ⟨rfl, hb1⟩; have hRI1 := hRI.belowS hb1; have ht1 := hRI1.ht; have hA1 := hA.qr 2 7 8 13; have hlen1 := hA1.len; clear hb1 hRI ht hA)
                  | (refine wpList_store_row rfl 53 _ _ rfl _ _ rfl rfl 53 _ ht1 (by rw [List.size_toArray, List.length_map, hlen1]; kernel_rfl) (by simp [hlen, hlen1]) ?c1 ?_; (case c1 => simp [Value.oneCell'])))
                have hRI := hRI1.put 2 7 8 13
                have hA := hA1
                clear hRI1 ht1 hA1 hlen hlen1
                rw [rounds_succ]
                have ht := hRI.ht
                have hlen := hA.len
                go_wp2_with (first
                  | (refine wpList_load_vrow rfl rfl rfl ht Try.underlying53 rfl (by rw [List.length_map, hlen]; kernel_rfl) ?_; simp only [Act.put, List.setIfInBounds_toArray, List.set_cons_zero, List.set_cons_succ])
                  | ((with_reducible refine (rquarter_at _ 3 4 9 14 3 4 9 14 (by decide) (by decide) (by decide) (by decide) (by decide) (by decide) (by decide) (by decide) hA _).mono ?_); rintro e w1 ⟨rfl, hb1⟩; have hRI1 := hRI.belowS hb1; have ht1 := hRI1.ht; have hA1 := hA.qr 3 4 9 14; have hlen1 := hA1.len; clear hb1 hRI ht hA)
                  | (refine wpList_store_row rfl 53 _ _ rfl _ _ rfl rfl 53 _ ht1 (by rw [List.size_toArray, List.length_map, hlen1]; kernel_rfl) (by simp [hlen, hlen1]) ?c1 ?_; (case c1 => simp [Value.oneCell'])))
                have hRI := hRI1.put 3 4 9 14
                have hA := hA1
                clear hRI1 ht1 hA1 hlen hlen1
                rw [rounds_succ]
                go_wp2_with fail
                go_roundw
                case rel => exact ⟨k + 1, by omega, by go_num, by rw [hnext (), if_neg hp]; exact hRI⟩
                case measure => simp [intOf]; omega
            · obtain rfl : k = 20 := by omega
              clear hk9 hlt
              rw [show ((20 : Nat) : Int) = 20 from rfl]
              have hAs := hA
              have hA := hrs_A hA 20
              have HD : Unit → hrs (stp kz c nz) 20 = drs (stp kz c nz) 10 := fun _ => hrs_even _ 10
              generalize hrs (stp kz c nz) 20 = D at hRI hA HD
              go_wp2_with fail
              have hgs := hRI.ht.lt
              obtain ⟨B, hB⟩ : ∃ B, B = wr.heap.size := ⟨_, rfl⟩
              rw [← hB] at hgs
              have hBs : w.heap.size ≤ B := by have := hRI.hlt; omega
              go_loopw [14, 15] (fun v u wr => ∃ k : Nat, k ≤ 16 ∧ u = .int .i64 k ∧ wr.ownsRow B 5 1 v (4 * k) ((routs (stp kz c nz) D k).map (Value.int .u8)) ∧ RI w wr g (stp kz c nz) D ∧ B ≤ wr.heap.size) (fun _ u _ => 16 - (intOf u).toNat)
              case atStart => exact ⟨0, by omega, rfl, World.ownsRow_nil _ _ _ _, hRI, by omega⟩
              clear hRI hB
              case round =>
                obtain ⟨k, hk9, rfl, hown, hRI, hBle⟩ := hrel
                by_cases hlt : k < 16
                · have l1 := hRI.ht.cell (k := k) (by rw [hA.len]; omega)
                  have l2 := hRI.hr.cell (k := k) (by rw [hl16]; omega)
                  have d1 := hA.wd k
                  have d2 := hAs.wd k
                  have hout : Unit → routs (stp kz c nz) D (k + 1) = routs (stp kz c nz) D k ++ b4 ((stp kz c nz).getD k 0 + D.getD k 0) := fun _ => routs_succ _ _ _
                  generalize (stp kz c nz).getD k 0 = S1 at l2 d2 hout
                  generalize D.getD k 0 = D1 at l1 d1 hout
                  obtain ⟨X, hX⟩ : ∃ X, S1 + D1 = X := ⟨_, rfl⟩
                  have x0 : 0 ≤ X ∧ X < 8589934592 := by have := d1.1; have := d1.2; have := d2.1; have := d2.2; omega
                  have x1 : (S1 + D1) % 18446744073709551616 = X := by omega
                  rw [hX] at hout
                  go_wp2_with fail
                  refine wp_region_sd mixed (by kernel_rfl) ?_
                  repeat (refine wpStill_step (fun K hK => ?_); go_simp; (try go_bits); refine hK _ ?_; clear hK K)
                  refine wpStill_nil ?_
                  clear l1 l2 d1 d2
                  go_wp2_with (at_builtin; refine wpList_append_own _ rfl _ _ 22 rfl B 5 i0 (.int .u8 0) 1 1 Try.underlying22 hi hz0 hz1 hz2 rfl (by decide) _ _ _ rfl (World.ownsRow.alloc (w := wr.drew) hown _) ⟨wr.heap.size, 0, none⟩ 4 4 [.int .u8 (X % 256), .int .u8 (X / 256 % 256), .int .u8 (X / 65536 % 256), .int .u8 (X / 16777216 % 256)] rfl rfl ?c1 ?c2 ?c3 ?c4 ?c5 ?_)
                  case c1 => (intro j u hj; rcases j with _ | _ | _ | _ | j <;> simp at hj <;> subst hj <;> simp [Addr.add])
                  case c2 => (intro u hu; simp at hu; rcases hu with rfl | rfl | rfl | rfl <;> rfl)
                  case c3 => unfold maxLen; omega
                  case c4 => omega
                  case c5 => simp; omega
                  intro v' w1 hown' hgrow _
                  have hRI' : RI w w1 g (stp kz c nz) D := (hRI.belowS (bel_alloc (bel_drew (Below.refl _ _)) _)).grown hgrow (fun k hk => (hown.lt k hk).1) (by omega) (by omega)
                  have ho' : w1.ownsRow B 5 1 v' (4 * (k + 1)) ((routs (stp kz c nz) D (k + 1)).map (Value.int .u8)) := by
                    rw [hout ()]; simpa [b4, Nat.mul_add] using hown'
                  have hBle' : B ≤ w1.heap.size := by have := hgrow.size; simp at this; omega
                  clear hown' hgrow hown hRI
                  go_wp2_with fail
                  go_roundw
                  case rel => exact ⟨k + 1, by omega, by go_num, ho', hRI', hBle'⟩
                  case measure => simp [intOf]; omega
                · obtain rfl : k = 16 := by omega
                  go_wp2_with fail
                  go_ret
                  refine ⟨⟨_, rfl, ?_⟩, hRI.hbel⟩
                  unfold rblockL
                  rw [← HD ()]
                  exact hown.mono (by omega)
end Go.Proofs.Ytddiamocnkffjaa
