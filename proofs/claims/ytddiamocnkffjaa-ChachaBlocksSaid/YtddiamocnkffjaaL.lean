import Derived.Test.YtddiamocnkffjaaJ
namespace Go.Proofs.Ytddiamocnkffjaa
open Go.RowKit Go.Proofs Go.Proofs.MyK
set_option linter.unusedSimpArgs false
set_option linter.unusedVariables false
def W64 (x : Int) : Prop := 0 ≤ x ∧ x < 18446744073709551616
/-- Five words of 64 bits. -/
structure A5 (s : List Int) : Prop where
  len : s.length = 5
  wd : ∀ k, W64 (s.getD k 0)
theorem A5.set {s : List Int} (h : A5 s) (i : Nat) {v : Int} (hv : W64 v) : A5 (s.set i v) := by
  refine ⟨by simp [h.len], fun k => ?_⟩
  rw [getD_set]; split
  · exact hv
  · exact h.wd k
theorem W64.mod (x : Int) : W64 (x % 18446744073709551616) := by unfold W64; omega
theorem and26 (x : Int) (h : W64 x) : bits .and .u64 x 67108863 = x % 67108864 := by
  rw [u64_and x 67108863 h.1 h.2 (by omega) (by omega)]
  have h1 : (67108863 : Int).toNat = 2 ^ 26 - 1 := by decide
  rw [h1, Nat.and_two_pow_sub_one_eq_mod]
  have := h.1
  omega
theorem le8_bd {z : Nat → Int} (h : ∀ k, 0 ≤ z k ∧ z k < 256) : W64 (le8 z) := by
  have h0 := h 0
  have h1 := h 1
  have h2 := h 2
  have h3 := h 3
  have h4 := h 4
  have h5 := h 5
  have h6 := h 6
  have h7 := h 7
  unfold le8 W64
  omega
theorem or_lo (x y p : Int) (i : Nat) (hp : (2 : Int) ^ i = p) (h0 : 0 ≤ y) (hy : y % p = 0) (h1 : y < 18446744073709551616) (hx : 0 ≤ x) (hxp : x < p) (h2 : x < 18446744073709551616) : bits .or .u64 x y = x + y := by
  have h := join64 y x p i hp h0 hy h1 hx hxp h2
  rw [u64_or x y hx h2 h0 h1, Nat.or_comm, ← u64_or y x h0 h1 hx h2, h]; omega
/-- The limbs of two words and a byte. -/
def limbs (lo hi b : Int) : List Int := [lo % 67108864, lo / 67108864 % 67108864, lo / 4503599627370496 + hi * 4096 % 67108864, hi / 16384 % 67108864, hi / 1099511627776 + b * 16777216]
def splitL (z : Nat → Int) : List Int := limbs (le8 z) (le8 (fun k => z (8 + k))) (z 16)
theorem limbs_A {lo hi b : Int} (h1 : W64 lo) (h2 : W64 hi) (h3 : 0 ≤ b ∧ b < 256) : A5 (limbs lo hi b) := by
  refine ⟨rfl, fun k => ?_⟩
  unfold W64 at *
  unfold limbs
  match k with
  | 0 => simp; omega
  | 1 => simp; omega
  | 2 => simp; omega
  | 3 => simp; omega
  | 4 => simp; omega
  | k + 5 => simp
theorem slice17a (b : Nat) (W : World) : (Instr.sliceAt 56 (.pointer (some ⟨b, 0, none⟩)) none (some (.int .i64 8)) none).run Try.prog W = .ok (.slice (some ⟨b, 0, none⟩) 8 17) W := by
  have ht : Try.prog.underlying 56 = some (.array (Try.prog.arrayLen 56) (Try.prog.elem 56)) := by kernel_rfl
  have hl : Try.prog.arrayLen 56 = 17 := by kernel_rfl
  have hs : (sizeOf (Try.prog.elem 56)).run Try.prog W = .ok 1 W := by kernel_rfl
  rw [run_sliceAt_array_h W 56 _ ht .i64 _ (by omega) (by rw [hl]; omega), hs, hl]
  simp [slicedAt, Addr.add]
theorem slice17b (b : Nat) (W : World) : (Instr.sliceAt 56 (.pointer (some ⟨b, 0, none⟩)) (some (.int .i64 8)) (some (.int .i64 16)) none).run Try.prog W = .ok (.slice (some ⟨b, 8, none⟩) 8 9) W := by
  have ht : Try.prog.underlying 56 = some (.array (Try.prog.arrayLen 56) (Try.prog.elem 56)) := by kernel_rfl
  have hl : Try.prog.arrayLen 56 = 17 := by kernel_rfl
  have hs : (sizeOf (Try.prog.elem 56)).run Try.prog W = .ok 1 W := by kernel_rfl
  rw [run_sliceAt_array_lh W 56 _ ht .i64 .i64 _ _ (by omega) (by omega) (by rw [hl]; omega), hs, hl]
  simp [slicedAt, Addr.add]
set_option maxHeartbeats 4000000 in
theorem split_calls (l : List Int) (hl : l.length = 17) (hb : ∀ x ∈ l, 0 ≤ x ∧ x < 256) (w : World) :
    Calls Try.prog 28 #[.agg (l.map (Value.int .u8)).toArray] w fun e w' => e = .returned (.agg ((splitL (fun k => l.getD k 0)).map (Value.int .u64)).toArray) ∧ Below w.heap.size w w' := by
  have WC := Lib.hid (fun (b off cap : Nat) (z : Nat → Int) (hb : ∀ k, 0 ≤ z k ∧ z k < 256) (w : World) (hz : ∀ k, k < 8 → w.cell? ⟨b, off + k, none⟩ = some (.int .u8 (z k))) => word8_calls b off cap z hb w hz)
  have s1 := slice17a w.heap.size
  have s2 := slice17b w.heap.size
  obtain ⟨z, hz⟩ : ∃ z : Nat → Int, z = fun k => l.getD k 0 := ⟨_, rfl⟩
  have hzl : ∀ k, l.getD k 0 = z k := fun k => by rw [hz]
  rw [← hz]
  have hz0 : ∀ k, 0 ≤ z k ∧ z k < 256 := fun k => by rw [← hzl]; exact getD_bd' hb k
  clear hz
  have hz1 : ∀ k, 0 ≤ (fun k => z (8 + k)) k ∧ (fun k => z (8 + k)) k < 256 := fun k => hz0 (8 + k)
  go_enter Try.func28, Try.ntmps28
  go_wp2_with fail
  have hR : IRow (((w.alloc (Obj.cells (l.map (Value.int .u8)).toArray 56)).alloc (Obj.cells #[Value.int .u64 0, Value.int .u64 0, Value.int .u64 0, Value.int .u64 0, Value.int .u64 0] 59)).drew) w.heap.size 56 .u8 l := ((IRow.new rfl).alloc _).drew
  have hV : IRow (((w.alloc (Obj.cells (l.map (Value.int .u8)).toArray 56)).alloc (Obj.cells #[Value.int .u64 0, Value.int .u64 0, Value.int .u64 0, Value.int .u64 0, Value.int .u64 0] 59)).drew) (w.heap.size + 1) 59 .u64 [0, 0, 0, 0, 0] := (IRow.new' (w := w.alloc (Obj.cells (l.map (Value.int .u8)).toArray 56)) (b := w.heap.size + 1) (T := 59) (kd := .u64) (xs := [0, 0, 0, 0, 0]) (by simp) rfl).drew
  have hbel : Below w.heap.size w (((w.alloc (Obj.cells (l.map (Value.int .u8)).toArray 56)).alloc (Obj.cells #[Value.int .u64 0, Value.int .u64 0, Value.int .u64 0, Value.int .u64 0, Value.int .u64 0] 59)).drew) := bel_drew (bel_alloc (bel_alloc (Below.refl _ _) _) _)
  refine wp_region_plan 1 1 [(.h, 0), (.p, 2), (.w, 1), (.w, 3), (.p, 4), (.p, 5)] mixed (by kernel_rfl) (fun dst _ _ _ _ h => by cases dst <;> exact h) ?_
  intro Q' K' hQ' hK'
  simp only [planOps_cons, planOps_nil, getD_zero, getD_succ]
  repeat (first
    | (refine seqC_w (fun K hK => ?_); go_simp; go_at_call 21; (with_reducible refine (WC.out w.heap.size 0 17 z hz0 _ (fun k hk => by rw [Nat.zero_add, ← hzl]; exact hR.cell (by omega))).mono ?_); rintro e w1 ⟨rfl, hb1⟩; replace hR := hR.belowS hb1; replace hV := hV.belowS hb1; replace hbel := below_S hbel hb1; refine hK _ _ ?_; clear hb1 hK K)
    | (refine seqC_w (fun K hK => ?_); go_simp; go_at_call 21; (with_reducible refine (WC.out w.heap.size 8 9 (fun k => z (8 + k)) hz1 _ (fun k hk => by rw [← hzl]; exact hR.cell (by omega))).mono ?_); rintro e w2 ⟨rfl, hb1⟩; replace hR := hR.belowS hb1; replace hV := hV.belowS hb1; replace hbel := below_S hbel hb1; refine hK _ _ ?_; clear hb1 hK K)
    | ((first | (with_reducible refine seqC_skip_h rfl ?_) | (with_reducible refine seqC_skip_p rfl ?_) | (with_reducible refine seqC_skip_e rfl ?_) | (with_reducible refine seqC_skip_w rfl ?_) | (with_reducible refine seqC_skip_b hB rfl ?_)); (try simp only [Act.put, List.setIfInBounds_toArray, List.set_cons_zero, List.set_cons_succ]))
    | (refine seqC_h (fun K hK => ?_); go_simp; (try go_bits); refine hK _ ?_; clear hK K)
    | (refine seqC_p (v := ?_) rfl (fun w' => ?_) ?_; rotate_left; go_simp; (try go_bits); (with_reducible rfl); (try simp only [Act.put, List.setIfInBounds_toArray, List.set_cons_zero, List.set_cons_succ]))
    | (refine seqC_e (v := ?_) rfl (fun w' hb' => ?_) ?_; rotate_left; (have hb1 := (bcell hb').1; clear hb'; go_simp; (try go_bits)); (with_reducible rfl); (try simp only [Act.put, List.setIfInBounds_toArray, List.set_cons_zero, List.set_cons_succ]))
    | (refine seqC_w (fun K hK => ?_); go_simp; (try go_bits); refine hK _ _ ?_; clear hK K))
  refine seqC_nil (hK' _ _ ?_)
  clear hK' K' hQ' Q'
  have hA : Unit → splitL z = limbs (le8 z) (le8 fun k => z (8 + k)) (z 16) := fun _ => rfl
  have wl := le8_bd hz0
  have wh := le8_bd hz1
  have c16 := hR.cell (k := 16) (by omega)
  rw [hzl] at c16
  have w16 := hz0 16
  clear s1 s2
  generalize (le8 z) = lo at wl hA ⊢
  generalize (le8 fun k => z (8 + k)) = hi at wh hA ⊢
  generalize z 16 = b at c16 w16 hA ⊢
  have o1 : bits BinOp.and .u64 lo 67108863 = lo % 67108864 := and26 lo wl
  have o2 : bits BinOp.and .u64 (lo / 67108864) 67108863 = lo / 67108864 % 67108864 := and26 _ (by unfold W64 at *; omega)
  have o3 : bits BinOp.and .u64 (IntKind.u64.wrap (hi * 4096)) 67108863 = hi * 4096 % 67108864 := by
    have h1 : IntKind.u64.wrap (hi * 4096) = hi * 4096 % 18446744073709551616 := by rw [IntKind.wrap_u64]
    rw [h1, and26 _ (W64.mod _)]; omega
  have o4 : bits BinOp.or .u64 (lo / 4503599627370496) (hi * 4096 % 67108864) = lo / 4503599627370496 + hi * 4096 % 67108864 :=
    or_lo _ _ 4096 12 (by decide) (by omega) (by omega) (by omega) (by unfold W64 at wl; omega) (by unfold W64 at wl; omega) (by unfold W64 at wl; omega)
  have o5 : bits BinOp.and .u64 (hi / 16384) 67108863 = hi / 16384 % 67108864 := and26 _ (by unfold W64 at *; omega)
  have o6 : bits BinOp.or .u64 (hi / 1099511627776) (b * 16777216) = hi / 1099511627776 + b * 16777216 :=
    or_lo _ _ 16777216 24 (by decide) (by omega) (by omega) (by omega) (by unfold W64 at wh; omega) (by unfold W64 at wh; omega) (by unfold W64 at wh; omega)
  go_wp2_with (refine wpList_store_row rfl 59 _ _ rfl _ _ rfl rfl 59 _ hV (by kernel_rfl) (by simp) ?c1 ?_; (case c1 => simp [Value.oneCell']))
  refine bodyPost_ret (results_cell_row rfl _ _ _ 59 _ (0, 0) _ rfl (VRow.setRow hV _) Try.underlying59 rfl (by kernel_rfl)) rfl ⟨by rw [hA ()]; rfl, bel_setRow hbel (by omega) _⟩
def cs1 (s : List Int) (i : Nat) : List Int := s.set (i + 1) ((s.getD (i + 1) 0 + s.getD i 0 / 67108864) % 18446744073709551616)
def cs2 (s : List Int) (i : Nat) : List Int := s.set i (s.getD i 0 % 67108864)
def cin (s : List Int) : Nat → List Int
  | 0 => s
  | i + 1 => cs2 (cs1 (cin s i) i) i
def ct1 (s : List Int) : List Int := s.set 0 ((s.getD 0 0 + 5 * (s.getD 4 0 / 67108864)) % 18446744073709551616)
def ct2 (s : List Int) : List Int := s.set 4 (s.getD 4 0 % 67108864)
def crs (s : List Int) : Nat → List Int
  | 0 => s
  | k + 1 => ct2 (ct1 (cin (crs s k) 4))
/-- The limbs made small. -/
def carryL (s : List Int) : List Int := crs s 2
theorem A5.cs1 {s : List Int} (h : A5 s) (i : Nat) : A5 (cs1 s i) := h.set _ (W64.mod _)
theorem A5.cs2 {s : List Int} (h : A5 s) (i : Nat) : A5 (cs2 s i) := h.set _ (by have := h.wd i; unfold W64 at *; omega)
theorem A5.cin {s : List Int} (h : A5 s) : ∀ i, A5 (cin s i)
  | 0 => h
  | i + 1 => ((A5.cin h i).cs1 i).cs2 i
theorem A5.ct1 {s : List Int} (h : A5 s) : A5 (ct1 s) := h.set _ (W64.mod _)
theorem A5.ct2 {s : List Int} (h : A5 s) : A5 (ct2 s) := h.set _ (by have := h.wd 4; unfold W64 at *; omega)
theorem A5.crs {s : List Int} (h : A5 s) : ∀ k, A5 (crs s k)
  | 0 => h
  | k + 1 => (((A5.crs h k).cin 4).ct1).ct2
theorem A5.carryL {s : List Int} (h : A5 s) : A5 (carryL s) := h.crs 2
set_option maxHeartbeats 4000000 in
theorem carry_calls (g : Nat) (T : TypeId) (s0 : List Int) (hs0 : A5 s0) (w : World) (hr : IRow w g T .u64 s0) :
    Calls Try.prog 29 #[.pointer (some ⟨g, 0, none⟩)] w fun e w' => e = .returned (.tuple #[]) ∧ IRow w' g T .u64 (carryL s0) ∧ w.grownBy w' (some g) := by
  have hg : w.grownBy w (some g) := grown_refl _ _
  go_enter Try.func29, Try.ntmps29
  go_wp2_with fail
  go_loopw [3] (fun u wr => ∃ k : Nat, k ≤ 2 ∧ u = .int .i64 k ∧ IRow wr g T .u64 (crs s0 k) ∧ w.grownBy wr (some g)) (fun u _ => 2 - (intOf u).toNat)
  case atStart => exact ⟨0, by omega, rfl, hr, hg⟩
  clear hr hg
  case round =>
    obtain ⟨k, hk9, rfl, hr, hg⟩ := hrel
    by_cases hlt : k < 2
    · have hs := hs0.crs k
      have hsn : Unit → crs s0 (k + 1) = ct2 (ct1 (cin (crs s0 k) 4)) := fun _ => by rw [crs]
      generalize crs s0 k = s at hr hs hsn
      go_wp2_with fail
      rw [show decide ((k : Int) < 2) = true by rw [decide_eq_true_eq]; omega]
      go_loopw [5] (fun u wr => ∃ i : Nat, i ≤ 4 ∧ u = .int .i64 i ∧ IRow wr g T .u64 (cin s i) ∧ w.grownBy wr (some g)) (fun u _ => 4 - (intOf u).toNat)
      case atStart => exact ⟨0, by omega, rfl, hr, hg⟩
      clear hr hg
      case round =>
        obtain ⟨i, hi9, rfl, hr, hg⟩ := hrel
        by_cases hli : i < 4
        · have ht := hs.cin i
          have htn : Unit → cin s (i + 1) = cs2 (cs1 (cin s i) i) i := fun _ => by rw [cin]
          generalize cin s i = t at hr ht htn
          have c1 := hr.cell (k := i + 1) (by rw [ht.len]; omega)
          have c0 := hr.cell (k := i) (by rw [ht.len]; omega)
          have f1 := hr.frozen (i + 1)
          have w1 := ht.wd (i + 1)
          have w0 := ht.wd i
          have e1 : Unit → cs1 t i = t.set (i + 1) ((t.getD (i + 1) 0 + t.getD i 0 / 67108864) % 18446744073709551616) := fun _ => rfl
          have g0 : (cs1 t i).getD i 0 = t.getD i 0 := by unfold cs1; rw [getD_set, if_neg (by omega)]
          have hd1 : (i : Int) + 1 < 5 := by omega
          have hd2 : 0 ≤ (i : Int) + 1 := by omega
          have hd3 : (i : Int) < 5 := by omega
          have hd4 : ((i : Int) + 1).toNat = i + 1 := by omega
          generalize t.getD (i + 1) 0 = X at c1 w1 e1
          generalize t.getD i 0 = Y at c0 w0 e1 g0
          have y1 := w0.1
          have y2 := w0.2
          have x1 := w1.1
          have x2 := w1.2
          go_wp2_with fail
          refine wp_region_plan 15 15 [(.h, 0), (.h, 1), (.h, 2), (.h, 3), (.h, 4), (.h, 5), (.h, 6), (.h, 7), (.h, 8), (.h, 9), (.h, 10), (.h, 11), (.h, 12), (.h, 13), (.h, 14), (.w, 15)] mixed (by kernel_rfl) (fun dst _ _ _ _ h => by cases dst <;> exact h) ?_
          intro Q' K' hQ' hK'
          simp only [planOps_cons, planOps_nil, getD_zero, getD_succ]
          repeat (first
            | ((first | (with_reducible refine seqC_skip_h rfl ?_) | (with_reducible refine seqC_skip_p rfl ?_) | (with_reducible refine seqC_skip_e rfl ?_) | (with_reducible refine seqC_skip_w rfl ?_) | (with_reducible refine seqC_skip_b hB rfl ?_)); (try simp only [Act.put, List.setIfInBounds_toArray, List.set_cons_zero, List.set_cons_succ]))
            | (refine seqC_h (fun K hK => ?_); go_simp; (try go_bits); refine hK _ ?_; clear hK K)
            | (refine seqC_p (v := ?_) rfl (fun w' => ?_) ?_; rotate_left; go_simp; (try go_bits); (with_reducible rfl); (try simp only [Act.put, List.setIfInBounds_toArray, List.set_cons_zero, List.set_cons_succ]))
            | (refine seqC_e (v := ?_) rfl (fun w' hb' => ?_) ?_; rotate_left; (have hb1 := (bcell hb').1; clear hb'; go_simp; (try go_bits)); (with_reducible rfl); (try simp only [Act.put, List.setIfInBounds_toArray, List.set_cons_zero, List.set_cons_succ]))
            | (refine seqC_w (fun K hK => ?_); go_simp; (try go_bits); refine hK _ _ ?_; clear hK K))
          refine seqC_nil (hK' _ _ ?_)
          clear hK' K' hQ' Q'
          have hr1 : IRow ((wr.setCell ⟨g, i + 1, none⟩ (.int .u64 (IntKind.u64.wrap (X + Y / 67108864)))).drew) g T .u64 (cs1 t i) := by
            rw [e1 (), ← IntKind.wrap_u64]; exact (hr.set _ _).drew
          have hg1 := grown_drew (grown_set hg (i + 1) (.int .u64 (IntKind.u64.wrap (X + Y / 67108864))))
          have ht1 := ht.cs1 i
          have e2 : Unit → cs2 (cs1 t i) i = (cs1 t i).set i (Y % 67108864) := fun _ => by unfold cs2; rw [g0]
          have c2 := hr1.cell (k := i) (by rw [ht1.len]; omega)
          rw [g0] at c2
          have f2 := hr1.frozen i
          have o1 := and26 Y w0
          clear c0 c1 f1 e1 g0 hr hg
          go_wp2_with fail
          refine wp_region_plan 8 8 [(.h, 0), (.h, 1), (.h, 2), (.h, 3), (.h, 4), (.h, 5), (.h, 6), (.h, 7), (.w, 8)] mixed (by kernel_rfl) (fun dst _ _ _ _ h => by cases dst <;> exact h) ?_
          intro Q' K' hQ' hK'
          simp only [planOps_cons, planOps_nil, getD_zero, getD_succ]
          repeat (first
            | ((first | (with_reducible refine seqC_skip_h rfl ?_) | (with_reducible refine seqC_skip_p rfl ?_) | (with_reducible refine seqC_skip_e rfl ?_) | (with_reducible refine seqC_skip_w rfl ?_) | (with_reducible refine seqC_skip_b hB rfl ?_)); (try simp only [Act.put, List.setIfInBounds_toArray, List.set_cons_zero, List.set_cons_succ]))
            | (refine seqC_h (fun K hK => ?_); go_simp; (try go_bits); refine hK _ ?_; clear hK K)
            | (refine seqC_p (v := ?_) rfl (fun w' => ?_) ?_; rotate_left; go_simp; (try go_bits); (with_reducible rfl); (try simp only [Act.put, List.setIfInBounds_toArray, List.set_cons_zero, List.set_cons_succ]))
            | (refine seqC_e (v := ?_) rfl (fun w' hb' => ?_) ?_; rotate_left; (have hb1 := (bcell hb').1; clear hb'; go_simp; (try go_bits)); (with_reducible rfl); (try simp only [Act.put, List.setIfInBounds_toArray, List.set_cons_zero, List.set_cons_succ]))
            | (refine seqC_w (fun K hK => ?_); go_simp; (try go_bits); refine hK _ _ ?_; clear hK K))
          refine seqC_nil (hK' _ _ ?_)
          clear hK' K' hQ' Q'
          have hr2 := (hr1.set i (Y % 67108864)).drew
          have hg2 := grown_drew (grown_set hg1 i (.int .u64 (Y % 67108864)))
          rw [← e2 ()] at hr2
          clear c2 f2 o1 hr1 hg1
          go_wp2_with fail
          go_roundw
          case rel => exact ⟨i + 1, by omega, by go_num, by rw [htn ()]; exact hr2, hg2⟩
          case measure => simp [intOf]; omega
        · obtain rfl : i = 4 := by omega
          clear hi9 hli
          rw [show ((4 : Nat) : Int) = 4 from rfl]
          have ht := hs.cin 4
          generalize cin s 4 = t at hr ht hsn
          have c1 := hr.cell (k := 0) (by rw [ht.len]; omega)
          have c0 := hr.cell (k := 4) (by rw [ht.len]; omega)
          have f1 := hr.frozen 0
          have w1 := ht.wd 0
          have w0 := ht.wd 4
          have e1 : Unit → ct1 t = t.set 0 ((t.getD 0 0 + 5 * (t.getD 4 0 / 67108864)) % 18446744073709551616) := fun _ => rfl
          have g0 : Unit → (ct1 t).getD 4 0 = t.getD 4 0 := fun _ => by unfold ct1; rw [getD_set, if_neg (by omega)]
          generalize t.getD 0 0 = X at c1 w1 e1
          generalize t.getD 4 0 = Y at c0 w0 e1 g0
          have y1 := w0.1
          have y2 := w0.2
          have x1 := w1.1
          have x2 := w1.2
          have hm : IntKind.u64.wrap (5 * (Y / 67108864)) = 5 * (Y / 67108864) := by rw [IntKind.wrap_u64]; omega
          go_wp2_with fail
          refine wp_region_plan 13 13 [(.h, 0), (.h, 1), (.h, 2), (.h, 3), (.h, 4), (.h, 5), (.h, 6), (.h, 7), (.h, 8), (.h, 9), (.h, 10), (.h, 11), (.h, 12), (.w, 13)] mixed (by kernel_rfl) (fun dst _ _ _ _ h => by cases dst <;> exact h) ?_
          intro Q' K' hQ' hK'
          simp only [planOps_cons, planOps_nil, getD_zero, getD_succ]
          repeat (first
            | ((first | (with_reducible refine seqC_skip_h rfl ?_) | (with_reducible refine seqC_skip_p rfl ?_) | (with_reducible refine seqC_skip_e rfl ?_) | (with_reducible refine seqC_skip_w rfl ?_) | (with_reducible refine seqC_skip_b hB rfl ?_)); (try simp only [Act.put, List.setIfInBounds_toArray, List.set_cons_zero, List.set_cons_succ]))
            | (refine seqC_h (fun K hK => ?_); go_simp; (try go_bits); refine hK _ ?_; clear hK K)
            | (refine seqC_p (v := ?_) rfl (fun w' => ?_) ?_; rotate_left; go_simp; (try go_bits); (with_reducible rfl); (try simp only [Act.put, List.setIfInBounds_toArray, List.set_cons_zero, List.set_cons_succ]))
            | (refine seqC_e (v := ?_) rfl (fun w' hb' => ?_) ?_; rotate_left; (have hb1 := (bcell hb').1; clear hb'; go_simp; (try go_bits)); (with_reducible rfl); (try simp only [Act.put, List.setIfInBounds_toArray, List.set_cons_zero, List.set_cons_succ]))
            | (refine seqC_w (fun K hK => ?_); go_simp; (try go_bits); refine hK _ _ ?_; clear hK K))
          refine seqC_nil (hK' _ _ ?_)
          clear hK' K' hQ' Q'
          have hr1 : IRow ((wr.setCell ⟨g, 0, none⟩ (.int .u64 (IntKind.u64.wrap (X + 5 * (Y / 67108864))))).drew) g T .u64 (ct1 t) := by
            rw [e1 (), ← IntKind.wrap_u64]; exact (hr.set _ _).drew
          have hg1 := grown_drew (grown_set hg 0 (.int .u64 (IntKind.u64.wrap (X + 5 * (Y / 67108864)))))
          have ht1 := ht.ct1
          have e2 : Unit → ct2 (ct1 t) = (ct1 t).set 4 (Y % 67108864) := fun _ => by unfold ct2; rw [g0 ()]
          have c2 := hr1.cell (k := 4) (by rw [ht1.len]; omega)
          rw [g0 ()] at c2
          have f2 := hr1.frozen 4
          have o1 := and26 Y w0
          clear c0 c1 f1 e1 g0 hr hg
          go_wp2_with fail
          refine wp_region_plan 7 7 [(.h, 0), (.h, 1), (.h, 2), (.h, 3), (.h, 4), (.h, 5), (.h, 6), (.w, 7)] mixed (by kernel_rfl) (fun dst _ _ _ _ h => by cases dst <;> exact h) ?_
          intro Q' K' hQ' hK'
          simp only [planOps_cons, planOps_nil, getD_zero, getD_succ]
          repeat (first
            | ((first | (with_reducible refine seqC_skip_h rfl ?_) | (with_reducible refine seqC_skip_p rfl ?_) | (with_reducible refine seqC_skip_e rfl ?_) | (with_reducible refine seqC_skip_w rfl ?_) | (with_reducible refine seqC_skip_b hB rfl ?_)); (try simp only [Act.put, List.setIfInBounds_toArray, List.set_cons_zero, List.set_cons_succ]))
            | (refine seqC_h (fun K hK => ?_); go_simp; (try go_bits); refine hK _ ?_; clear hK K)
            | (refine seqC_p (v := ?_) rfl (fun w' => ?_) ?_; rotate_left; go_simp; (try go_bits); (with_reducible rfl); (try simp only [Act.put, List.setIfInBounds_toArray, List.set_cons_zero, List.set_cons_succ]))
            | (refine seqC_e (v := ?_) rfl (fun w' hb' => ?_) ?_; rotate_left; (have hb1 := (bcell hb').1; clear hb'; go_simp; (try go_bits)); (with_reducible rfl); (try simp only [Act.put, List.setIfInBounds_toArray, List.set_cons_zero, List.set_cons_succ]))
            | (refine seqC_w (fun K hK => ?_); go_simp; (try go_bits); refine hK _ _ ?_; clear hK K))
          refine seqC_nil (hK' _ _ ?_)
          clear hK' K' hQ' Q'
          have hr2 := (hr1.set 4 (Y % 67108864)).drew
          have hg2 := grown_drew (grown_set hg1 4 (.int .u64 (Y % 67108864)))
          rw [← e2 ()] at hr2
          clear c2 f2 o1 hr1 hg1
          go_wp2_with fail
          go_roundw
          case rel => exact ⟨k + 1, by omega, by go_num, by rw [hsn ()]; exact hr2, hg2⟩
          case measure => simp [intOf]; omega
    · obtain rfl : k = 2 := by omega
      go_wp2_with fail
      exact bodyPost_end (results_none rfl _ _ _) rfl ⟨rfl, hr, hg⟩
end Go.Proofs.Ytddiamocnkffjaa
