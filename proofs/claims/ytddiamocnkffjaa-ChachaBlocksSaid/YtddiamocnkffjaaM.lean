import Derived.Test.YtddiamocnkffjaaL
import Derived.Test.YtddiamocnkffjaaK6
import Derived.Laws.Externs
namespace Go.Proofs.Ytddiamocnkffjaa
set_option linter.unusedSimpArgs false
set_option linter.unusedVariables false
open Go.RowKit Go.Proofs Go.Proofs.MyK
theorem ix0 (c0 c1 c2 c3 c4 : Int) (w : World) : (Instr.index 59 (.agg #[.int .u64 c0, .int .u64 c1, .int .u64 c2, .int .u64 c3, .int .u64 c4]) (.int .i64 0)).run Try.prog w = .ok (.int .u64 c0) w := by kernel_rfl
theorem ix1 (c0 c1 c2 c3 c4 : Int) (w : World) : (Instr.index 59 (.agg #[.int .u64 c0, .int .u64 c1, .int .u64 c2, .int .u64 c3, .int .u64 c4]) (.int .i64 1)).run Try.prog w = .ok (.int .u64 c1) w := by kernel_rfl
theorem ix2 (c0 c1 c2 c3 c4 : Int) (w : World) : (Instr.index 59 (.agg #[.int .u64 c0, .int .u64 c1, .int .u64 c2, .int .u64 c3, .int .u64 c4]) (.int .i64 2)).run Try.prog w = .ok (.int .u64 c2) w := by kernel_rfl
theorem ix3 (c0 c1 c2 c3 c4 : Int) (w : World) : (Instr.index 59 (.agg #[.int .u64 c0, .int .u64 c1, .int .u64 c2, .int .u64 c3, .int .u64 c4]) (.int .i64 3)).run Try.prog w = .ok (.int .u64 c3) w := by kernel_rfl
theorem ix4 (c0 c1 c2 c3 c4 : Int) (w : World) : (Instr.index 59 (.agg #[.int .u64 c0, .int .u64 c1, .int .u64 c2, .int .u64 c3, .int .u64 c4]) (.int .i64 4)).run Try.prog w = .ok (.int .u64 c4) w := by kernel_rfl
theorem index5 (c : List Int) (hc : c.length = 5) (j : Nat) (hj : j < 5) (w : World) : (Instr.index 59 (.agg (c.map (Value.int .u64)).toArray) (.int .i64 (j : Int))).run Try.prog w = .ok (.int .u64 (c.getD j 0)) w := by
  match c, hc with
  | [c0, c1, c2, c3, c4], _ =>
    match j, hj with
    | 0, _ => exact ix0 c0 c1 c2 c3 c4 w
    | 1, _ => exact ix1 c0 c1 c2 c3 c4 w
    | 2, _ => exact ix2 c0 c1 c2 c3 c4 w
    | 3, _ => exact ix3 c0 c1 c2 c3 c4 w
    | 4, _ => exact ix4 c0 c1 c2 c3 c4 w
theorem and15 (x : Int) (h : 0 ≤ x ∧ x < 256) : bits .and .u8 x 15 = x % 16 := by
  rw [u8_and x 15 h.1 h.2 (by omega) (by omega)]
  have h1 : (15 : Int).toNat = 2 ^ 4 - 1 := by decide
  rw [h1, Nat.and_two_pow_sub_one_eq_mod]
  have := h.1
  omega
set_option maxRecDepth 20000 in
theorem and252 (x : Int) (h : 0 ≤ x ∧ x < 256) : bits .and .u8 x 252 = x / 4 * 4 := by
  rw [u8_and x 252 h.1 h.2 (by omega) (by omega)]
  have h1 : (252 : Int).toNat = 252 := by decide
  have h2 : ∀ n : Fin 256, n.val &&& 252 = n.val / 4 * 4 := by decide
  have h3 := h2 ⟨x.toNat, by omega⟩
  simp only at h3
  rw [h1, h3]
  have := h.1
  omega
def sumS (x y c : Int) : Int := (x + y + c) % 18446744073709551616
def sumC (x y c : Int) : Int := (x + y + c) / 18446744073709551616
theorem add64_run (x y c : Int) (hx : W64 x) (hy : W64 y) (hc : 0 ≤ c ∧ c ≤ 1) (w : World) :
    (callFunc 30 #[.int .u64 x, .int .u64 y, .int .u64 c]).run Try.prog w = .ok (.value (.tuple #[.int .u64 (sumS x y c), .int .u64 (sumC x y c)])) w := by
  rw [run_callFunc_extern Try.func30 (by kernel_rfl) (by kernel_rfl) (by kernel_rfl) (e := add64Entry) (by kernel_rfl), run_add64 x y c hx.1 hy.1 hc.1 hc.2]
  rfl
def sa (l : List Int) (i : Nat) : List Int := l.set i (l.getD i 0 % 16)
def sb (l : List Int) (i : Nat) : List Int := l.set i (l.getD i 0 / 4 * 4)
theorem sa_eq {l : List Int} {i : Nat} {X : Int} (h : l.getD i 0 = X) : sa l i = l.set i (X % 16) := by unfold sa; rw [h]
theorem sb_eq {l : List Int} {i : Nat} {X : Int} (h : l.getD i 0 = X) : sb l i = l.set i (X / 4 * 4) := by unfold sb; rw [h]
def key17 (kz : Nat → Int) : List Int := [kz 0, kz 1, kz 2, kz 3, kz 4, kz 5, kz 6, kz 7, kz 8, kz 9, kz 10, kz 11, kz 12, kz 13, kz 14, kz 15, 0]
def clampL (l : List Int) : List Int := sb (sb (sb (sa (sa (sa (sa l 3) 7) 11) 15) 4) 8) 12
structure B17 (l : List Int) : Prop where
  len : l.length = 17
  bd : ∀ x ∈ l, 0 ≤ x ∧ x < 256
theorem B17.set {l : List Int} (h : B17 l) (i : Nat) {v : Int} (hv : 0 ≤ v ∧ v < 256) : B17 (l.set i v) :=
  ⟨by simp [h.len], fun x hx => (List.mem_or_eq_of_mem_set hx).elim (h.bd x) (fun e => e ▸ hv)⟩
theorem B17.sa {l : List Int} (h : B17 l) (i : Nat) : B17 (sa l i) := h.set i (by omega)
theorem B17.sb {l : List Int} (h : B17 l) (i : Nat) : B17 (sb l i) := h.set i (by have := getD_bd' h.bd i; omega)
theorem B17.clamp {l : List Int} (h : B17 l) : B17 (clampL l) := ((((((h.sa 3).sa 7).sa 11).sa 15).sb 4).sb 8).sb 12
theorem key17_B {kz : Nat → Int} (hk : ∀ k, 0 ≤ kz k ∧ kz k < 256) : B17 (key17 kz) := by
  refine ⟨rfl, fun x hx => ?_⟩
  simp only [key17, List.mem_cons, List.not_mem_nil, or_false] at hx
  rcases hx with rfl | rfl | rfl | rfl | rfl | rfl | rfl | rfl | rfl | rfl | rfl | rfl | rfl | rfl | rfl | rfl | rfl
  all_goals (first | exact hk _ | omega)
def rL (kz : Nat → Int) : List Int := splitL (fun k => (clampL (key17 kz)).getD k 0)
theorem splitL_A {z : Nat → Int} (hz : ∀ k, 0 ≤ z k ∧ z k < 256) : A5 (splitL z) := limbs_A (le8_bd hz) (le8_bd fun k => hz _) (hz 16)
theorem rL_A {kz : Nat → Int} (hk : ∀ k, 0 ≤ kz k ∧ kz k < 256) : A5 (rL kz) := splitL_A (fun k => getD_bd' (key17_B hk).clamp.bd k)
/-- A part of the text, with a one behind. -/
def mblk (src : List Int) : List Int := (src.take 16 ++ (List.replicate 17 0).drop (min src.length 16)).set (min src.length 16) 1
theorem mblk_B {src : List Int} (h : ∀ x ∈ src, 0 ≤ x ∧ x < 256) : B17 (mblk src) := by
  have h1 : B17 (src.take 16 ++ (List.replicate 17 0).drop (min src.length 16)) := by
    refine ⟨by simp; omega, fun x hx => ?_⟩
    rcases List.mem_append.1 hx with h2 | h2
    · exact h x (List.mem_of_mem_take h2)
    · have := List.eq_of_mem_replicate (List.mem_of_mem_drop h2); omega
  exact h1.set _ (by omega)
def addk (h c : List Int) : Nat → List Int
  | 0 => h
  | k + 1 => (addk h c k).set k (((addk h c k).getD k 0 + c.getD k 0) % 18446744073709551616)
theorem addk_succ (h c : List Int) (k : Nat) : addk h c (k + 1) = (addk h c k).set k (((addk h c k).getD k 0 + c.getD k 0) % 18446744073709551616) := by rw [addk]
theorem A5.addk {h : List Int} (hh : A5 h) (c : List Int) : ∀ k, A5 (addk h c k)
  | 0 => hh
  | k + 1 => (A5.addk hh c k).set _ (W64.mod _)
def prod (h r : List Int) (j l : Nat) : Int := if 4 < j + l then IntKind.u64.wrap (IntKind.u64.wrap (h.getD j 0 * r.getD l 0) * 5) else IntKind.u64.wrap (h.getD j 0 * r.getD l 0)
theorem wrap_W (x : Int) : W64 (IntKind.u64.wrap x) := by rw [IntKind.wrap_u64]; exact W64.mod x
theorem prod_W (h r : List Int) (j l : Nat) : W64 (prod h r j l) := by unfold prod; split <;> exact wrap_W _
def mrow (h r t : List Int) (j : Nat) : Nat → List Int
  | 0 => t
  | l + 1 => (mrow h r t j l).set ((j + l) % 5) (((mrow h r t j l).getD ((j + l) % 5) 0 + prod h r j l) % 18446744073709551616)
theorem mrow_succ (h r t : List Int) (j l : Nat) : mrow h r t j (l + 1) = (mrow h r t j l).set ((j + l) % 5) (((mrow h r t j l).getD ((j + l) % 5) 0 + prod h r j l) % 18446744073709551616) := by rw [mrow]
theorem A5.mrow {t : List Int} (ht : A5 t) (h r : List Int) (j : Nat) : ∀ l, A5 (mrow h r t j l)
  | 0 => ht
  | l + 1 => (A5.mrow ht h r j l).set _ (W64.mod _)
def mall (h r : List Int) : Nat → List Int
  | 0 => [0, 0, 0, 0, 0]
  | j + 1 => mrow h r (mall h r j) j 5
theorem zero5_A : A5 [0, 0, 0, 0, 0] := ⟨rfl, fun k => by
  match k with
  | 0 => simp [W64]
  | 1 => simp [W64]
  | 2 => simp [W64]
  | 3 => simp [W64]
  | 4 => simp [W64]
  | k + 5 => simp [W64]⟩
theorem mall_A (h r : List Int) : ∀ j, A5 (mall h r j)
  | 0 => zero5_A
  | j + 1 => (mall_A h r j).mrow h r j 5
def pstep (r h src : List Int) : List Int := carryL (mall (addk h (splitL (fun k => (mblk src).getD k 0)) 5) r 5)
def psteps (r l : List Int) : Nat → List Int
  | 0 => [0, 0, 0, 0, 0]
  | m + 1 => pstep r (psteps r l m) (l.drop (16 * m))
theorem psteps_A (r l : List Int) : ∀ m, A5 (psteps r l m)
  | 0 => zero5_A
  | m + 1 => by rw [psteps, pstep]; exact (mall_A _ _ 5).carryL
def g0L (H : List Int) : List Int := H.set 0 ((H.getD 0 0 + 5) % 18446744073709551616)
theorem A5.g0L {H : List Int} (h : A5 H) : A5 (g0L H) := h.set _ (W64.mod _)
/-- The limbs below the prime. -/
def finL (H : List Int) : List Int := if 0 < (cin (g0L H) 4).getD 4 0 / 67108864 then ct2 (cin (g0L H) 4) else H
theorem A5.finL {H : List Int} (h : A5 H) : A5 (finL H) := by
  unfold Go.Proofs.Ytddiamocnkffjaa.finL
  split
  · exact (h.g0L.cin 4).ct2
  · exact h
def lo3 (F : List Int) : Int := bits .or .u64 (bits .or .u64 (F.getD 0 0) (IntKind.u64.wrap (F.getD 1 0 * 67108864))) (IntKind.u64.wrap (F.getD 2 0 * 4503599627370496))
def hi3 (F : List Int) : Int := bits .or .u64 (bits .or .u64 (F.getD 2 0 / 4096) (IntKind.u64.wrap (F.getD 3 0 * 16384))) (IntKind.u64.wrap (F.getD 4 0 * 1099511627776))
theorem or_W {x y : Int} (hx : W64 x) (hy : W64 y) : W64 (bits .or .u64 x y) := by
  rw [u64_or x y hx.1 hx.2 hy.1 hy.2]
  have h1 := Nat.or_lt_two_pow (x := x.toNat) (y := y.toNat) (n := 64) (by have := hx.1; have := hx.2; omega) (by have := hy.1; have := hy.2; omega)
  unfold W64; omega
theorem lo3_W {F : List Int} (h : A5 F) : W64 (lo3 F) := or_W (or_W (h.wd 0) (wrap_W _)) (wrap_W _)
theorem hi3_W {F : List Int} (h : A5 F) : W64 (hi3 F) := or_W (or_W (by have := h.wd 2; unfold W64 at *; omega) (wrap_W _)) (wrap_W _)
theorem slice_lh (b off n c i j : Nat) (ix jx : Int) (hi : i < c) (hj : j ≤ c) (hij : i ≤ j) (hx : ix = (i : Int)) (hy : jx = (j : Int)) (W : World) : (Instr.slice 22 (.slice (some ⟨b, off, none⟩) n c) (some (.int .i64 ix)) (some (.int .i64 jx)) none).run Try.prog W = .ok (.slice (some ⟨b, off + i, none⟩) (j - i) (c - i)) W := by
  subst hx hy
  have hs : (sizeOf (Try.prog.elem 22)).run Try.prog W = .ok 1 W := by kernel_rfl
  rw [run_slice_lh (P := Try.prog) W 22 _ n c (by kernel_rfl) .i64 .i64 _ _ (by omega) (by omega) (by omega), hs]
  have h1 : ¬ c = i := by omega
  simp [sliced, h1, Addr.add]
/-- The limbs behind all parts. -/
def polyH (kz : Nat → Int) (l : List Int) : List Int := carryL (psteps (rL kz) l ((l.length + 15) / 16))
def polyF (kz : Nat → Int) (l : List Int) : List Int := finL (polyH kz l)
/-- The code of a text. -/
def polyL (kz : Nat → Int) (l : List Int) : List Int :=
  put8 (put8 (List.replicate 16 0) 0 (sumS (lo3 (polyF kz l)) (le8 fun k => kz (16 + k)) 0)) 8 (sumS (hi3 (polyF kz l)) (le8 fun k => kz (24 + k)) (sumC (lo3 (polyF kz l)) (le8 fun k => kz (16 + k)) 0))
theorem slice17 (b : Nat) (W : World) : (Instr.sliceAt 56 (.pointer (some ⟨b, 0, none⟩)) none none none).run Try.prog W = .ok (.slice (some ⟨b, 0, none⟩) 17 17) W := by
  have ht : Try.prog.underlying 56 = some (.array (Try.prog.arrayLen 56) (Try.prog.elem 56)) := by kernel_rfl
  have hl : Try.prog.arrayLen 56 = 17 := by kernel_rfl
  have hs : (sizeOf (Try.prog.elem 56)).run Try.prog W = .ok 1 W := by kernel_rfl
  rw [run_sliceAt_array_all W 56 _ ht, hs, hl]
  simp [slicedAt, Addr.add]
theorem slice17h (b : Nat) (W : World) : (Instr.sliceAt 56 (.pointer (some ⟨b, 0, none⟩)) none (some (.int .i64 16)) none).run Try.prog W = .ok (.slice (some ⟨b, 0, none⟩) 16 17) W := by
  have ht : Try.prog.underlying 56 = some (.array (Try.prog.arrayLen 56) (Try.prog.elem 56)) := by kernel_rfl
  have hl : Try.prog.arrayLen 56 = 17 := by kernel_rfl
  have hs : (sizeOf (Try.prog.elem 56)).run Try.prog W = .ok 1 W := by kernel_rfl
  rw [run_sliceAt_array_h W 56 _ ht .i64 _ (by omega) (by rw [hl]; omega), hs, hl]
  simp [slicedAt, Addr.add]
theorem rounds_abs {P : Program} {c : Code} {Q : Exit → Act → World → Prop} {n : Nat} {a : Act} {w : World} (R : World → Prop) (hR : R w) (h : ∀ w', R w' → Code.rounds P c Q n a w') : Code.rounds P c Q n a w := h w hR
theorem Bs_below {w W : World} {v : Value} {l : List Int} (h : Bs w v l) (hb : Below w.heap.size w W) : Bs W v l := h.belowS hb
theorem slice_from (b off n c i : Nat) (hi : i < c) (hin : i ≤ n) (ix : Int) (hx : ix = (i : Int)) (W : World) : (Instr.slice 22 (.slice (some ⟨b, off, none⟩) n c) (some (.int .i64 ix)) none none).run Try.prog W = .ok (.slice (some ⟨b, off + i, none⟩) (n - i) (c - i)) W := by
  subst hx
  have hs : (sizeOf (Try.prog.elem 22)).run Try.prog W = .ok 1 W := by kernel_rfl
  rw [run_slice_l (P := Try.prog) W 22 _ n c (by kernel_rfl) .i64 _ (by omega) (by omega), hs]
  have h1 : ¬ c = i := by omega
  simp [sliced, h1, Addr.add]
structure PI (w W : World) : Prop where
  ho : IRow W w.heap.size 39 .u8 (List.replicate 16 0)
  hv : IRow W (w.heap.size + 1) 39 .u8 (List.replicate 16 0)
  hbel : Below w.heap.size w W
theorem PI.belowS {w W W1 : World} (h : PI w W) (hb : Below W.heap.size W W1) : PI w W1 := ⟨h.ho.belowS hb, h.hv.belowS hb, below_S h.hbel hb⟩
theorem PI.grown {w W W1 : World} (h : PI w W) {g : Nat} (hg : W.grownBy W1 (some g)) (hlt : w.heap.size + 2 ≤ g) : PI w W1 :=
  ⟨h.ho.grown hg (by simp; omega), h.hv.grown hg (by simp; omega), below_grown h.hbel hg (by omega)⟩
theorem PI.set {w W : World} (h : PI w W) {g : Nat} (hlt : w.heap.size + 2 ≤ g) (k : Nat) (v : Value) : PI w (W.setCell ⟨g, k, none⟩ v) := h.grown (setCell_grown W g k v) hlt
theorem PI.setRow {w W : World} (h : PI w W) {g : Nat} (hlt : w.heap.size + 2 ≤ g) (ys : Array Value) : PI w (W.setRow g ys) :=
  ⟨h.ho.setRowO (by omega) _, h.hv.setRowO (by omega) _, bel_setRow h.hbel (by omega) _⟩
theorem PI.alloc {w W : World} (h : PI w W) (o : Obj) : PI w (W.alloc o) := h.belowS (bel_alloc (Below.refl _ _) o)
theorem PI.drew {w W : World} (h : PI w W) : PI w W.drew := h.belowS (bel_drew (Below.refl _ _))
theorem sumS_nn (x y c : Int) : 0 ≤ sumS x y c := by unfold sumS; omega
theorem sumC_bd {x y : Int} (hx : W64 x) (hy : W64 y) : 0 ≤ sumC x y 0 ∧ sumC x y 0 ≤ 1 := by unfold sumC W64 at *; omega
theorem slice16a (b : Nat) (W : World) : (Instr.sliceAt 39 (.pointer (some ⟨b, 0, none⟩)) none (some (.int .i64 8)) none).run Try.prog W = .ok (.slice (some ⟨b, 0, none⟩) 8 16) W := by
  have ht : Try.prog.underlying 39 = some (.array (Try.prog.arrayLen 39) (Try.prog.elem 39)) := by kernel_rfl
  have hl : Try.prog.arrayLen 39 = 16 := by kernel_rfl
  have hs : (sizeOf (Try.prog.elem 39)).run Try.prog W = .ok 1 W := by kernel_rfl
  rw [run_sliceAt_array_h W 39 _ ht .i64 _ (by omega) (by rw [hl]; omega), hs, hl]
  simp [slicedAt, Addr.add]
theorem slice16b (b : Nat) (W : World) : (Instr.sliceAt 39 (.pointer (some ⟨b, 0, none⟩)) (some (.int .i64 8)) none none).run Try.prog W = .ok (.slice (some ⟨b, 8, none⟩) 8 8) W := by
  have ht : Try.prog.underlying 39 = some (.array (Try.prog.arrayLen 39) (Try.prog.elem 39)) := by kernel_rfl
  have hl : Try.prog.arrayLen 39 = 16 := by kernel_rfl
  have hs : (sizeOf (Try.prog.elem 39)).run Try.prog W = .ok 1 W := by kernel_rfl
  rw [run_sliceAt_array_l W 39 _ ht .i64 _ (by omega) (by rw [hl]; omega), hs, hl]
  simp [slicedAt, Addr.add]
structure PJ (w W : World) (g : Nat) (R H : List Int) : Prop where
  pi : PI w W
  hR : IRow W g 59 .u64 R
  hH : IRow W (g + 1) 59 .u64 H
  hlt : w.heap.size + 2 ≤ g
theorem PJ.belowS {w W W1 : World} {g : Nat} {R H : List Int} (h : PJ w W g R H) (hb : Below W.heap.size W W1) : PJ w W1 g R H := ⟨h.pi.belowS hb, h.hR.belowS hb, h.hH.belowS hb, h.hlt⟩
theorem PJ.grown {w W W1 : World} {g : Nat} {R H : List Int} (h : PJ w W g R H) {k : Nat} (hg : W.grownBy W1 (some k)) (hk : g + 2 ≤ k) : PJ w W1 g R H :=
  ⟨h.pi.grown hg (by have := h.hlt; omega), h.hR.grown hg (by simp; omega), h.hH.grown hg (by simp; omega), h.hlt⟩
theorem PJ.setH {w W : World} {g : Nat} {R H : List Int} (h : PJ w W g R H) (k : Nat) (v : Int) : PJ w (W.setCell ⟨g + 1, k, none⟩ (.int .u64 v)) g R (H.set k v) :=
  ⟨h.pi.set (by have := h.hlt; omega) _ _, h.hR.setO (by show g ≠ g + 1; omega) _, h.hH.set _ _, h.hlt⟩
theorem PJ.rowH {w W : World} {g : Nat} {R H : List Int} (h : PJ w W g R H) (H' : List Int) : PJ w (W.setRow (g + 1) (H'.map (Value.int .u64)).toArray) g R H' :=
  ⟨h.pi.setRow (by have := h.hlt; omega) _, h.hR.setRowO (by omega) _, IRow.setRow h.hH _, h.hlt⟩
theorem PJ.setRowO {w W : World} {g : Nat} {R H : List Int} (h : PJ w W g R H) {k : Nat} (hk : g + 2 ≤ k) (ys : Array Value) : PJ w (W.setRow k ys) g R H :=
  ⟨h.pi.setRow (by have := h.hlt; omega) _, h.hR.setRowO (by omega) _, h.hH.setRowO (by omega) _, h.hlt⟩
theorem PJ.carryH {w W W1 : World} {g : Nat} {R H H1 : List Int} (h : PJ w W g R H) (hr : IRow W1 (g + 1) 59 .u64 H1) (hg : W.grownBy W1 (some (g + 1))) : PJ w W1 g R H1 :=
  ⟨h.pi.grown hg (by have := h.hlt; omega), h.hR.grown hg (by simp), hr, h.hlt⟩
theorem PJ.alloc {w W : World} {g : Nat} {R H : List Int} (h : PJ w W g R H) (o : Obj) : PJ w (W.alloc o) g R H := h.belowS (bel_alloc (Below.refl _ _) o)
theorem PJ.drew {w W : World} {g : Nat} {R H : List Int} (h : PJ w W g R H) : PJ w W.drew g R H := h.belowS (bel_drew (Below.refl _ _))
set_option maxRecDepth 4000 in
set_option maxHeartbeats 16000000 in
theorem poly_calls (bk ok ck : Nat) (kz : Nat → Int) (w : World) (hk : ∀ k, 0 ≤ kz k ∧ kz k < 256) (ck32 : 32 ≤ ck) (ckm : ck ≤ maxLen) (hK : At w bk ok 32 kz) (v : Value) (l : List Int) (hB : Bs w v l) (hm : l.length ≤ 140737488355328) :
    Calls Try.prog 17 #[.slice (some ⟨bk, ok, none⟩) 32 ck, v] w fun e w' => e = .returned (.tuple #[.agg ((polyL kz l).map (Value.int .u8)).toArray, .int .i64 0]) ∧ Below w.heap.size w w' := by
  have hbk := hK.lt
  have hl := hB.1
  obtain ⟨a, cv, rfl, hcv1, hcv2⟩ := hB.form
  have hBat := fun h => hB.at h
  clear hB
  have s1 := slice17 (w.heap.size + 1 + 1)
  have e9 : goInt ((min ((List.range 16).map kz).length 17 : Nat) : Int) = Value.int .i64 16 := by kernel_rfl
  have ck16 : (16 : Int) ≤ (ck : Int) := by omega
  go_enter Try.func17, Try.ntmps17
  go_wp2_with fail
  have hPI : PI w (((w.alloc (.cells ((List.replicate 16 0).map (Value.int .u8)).toArray 39)).alloc (.cells ((List.replicate 16 0).map (Value.int .u8)).toArray 39)).alloc (.cells ((List.replicate 17 0).map (Value.int .u8)).toArray 56)) :=
    PI.alloc ⟨(IRow.new rfl).alloc _, IRow.new (by simp), bel_alloc (bel_alloc (Below.refl _ _) _) _⟩ _
  have h7 : IRow (((w.alloc (.cells ((List.replicate 16 0).map (Value.int .u8)).toArray 39)).alloc (.cells ((List.replicate 16 0).map (Value.int .u8)).toArray 39)).alloc (.cells ((List.replicate 17 0).map (Value.int .u8)).toArray 56)) (w.heap.size + 1 + 1) 56 .u8 (List.replicate 17 0) := IRow.new (by simp)
  have hBk : Bs (((w.alloc (.cells ((List.replicate 16 0).map (Value.int .u8)).toArray 39)).alloc (.cells ((List.replicate 16 0).map (Value.int .u8)).toArray 39)).alloc (.cells ((List.replicate 17 0).map (Value.int .u8)).toArray 56)).drew (.slice (some ⟨bk, ok, none⟩) 16 ck) ((List.range 16).map kz) :=
    Bs.ofAt (l := (List.range 16).map kz) (c := ck) ⟨(hK.below hPI.drew.hbel hbk).lt, fun k hk => by
      have hk' : k < 16 := by simpa using hk
      rw [(hK.below hPI.drew.hbel hbk).cell k (by omega)]; simp [List.getD_eq_getElem?_getD, hk']⟩ (fun x hx => by obtain ⟨k, _, rfl⟩ := List.mem_map.1 hx; exact hk k) (by simp; omega) ckm
  refine wp_region_plan 3 3 [(.h, 0), (.h, 1), (.h, 2), (.w, 3)] mixed (by kernel_rfl) (fun dst _ _ _ _ h => by cases dst <;> exact h) ?_
  intro Q' K' hQ' hK'
  simp only [planOps_cons, planOps_nil, getD_zero, getD_succ]
  repeat (first
    | (refine seqC_w (fun K hK => ?_); rw [if_pos (by rfl)]; refine wp_copy_bs _ _ _ 22 22 rfl 5 Try.underlying22 (by kernel_rfl) (w.heap.size + 1 + 1) 17 17 rfl (IRow.drew h7) (by simp) _ rfl ((List.range 16).map kz) hBk ?_; intro w1 h71 hg1; rw [e9]; simp only [Act.put, List.setIfInBounds_toArray, List.set_cons_zero, List.set_cons_succ]; refine hK _ _ ?_; clear hK K)
    | ((first | (with_reducible refine seqC_skip_h rfl ?_) | (with_reducible refine seqC_skip_p rfl ?_) | (with_reducible refine seqC_skip_e rfl ?_) | (with_reducible refine seqC_skip_w rfl ?_) | (with_reducible refine seqC_skip_b hB rfl ?_)); (try simp only [Act.put, List.setIfInBounds_toArray, List.set_cons_zero, List.set_cons_succ]))
    | (refine seqC_h (fun K hK => ?_); go_simp; (try go_bits); refine hK _ ?_; clear hK K)
    | (refine seqC_p (v := ?_) rfl (fun w' => ?_) ?_; rotate_left; go_simp; (try go_bits); (with_reducible rfl); (try simp only [Act.put, List.setIfInBounds_toArray, List.set_cons_zero, List.set_cons_succ]))
    | (refine seqC_e (v := ?_) rfl (fun w' hb' => ?_) ?_; rotate_left; (have hb1 := (bcell hb').1; clear hb'; go_simp; (try go_bits)); (with_reducible rfl); (try simp only [Act.put, List.setIfInBounds_toArray, List.set_cons_zero, List.set_cons_succ]))
    | (refine seqC_w (fun K hK => ?_); go_simp; (try go_bits); refine hK _ _ ?_; clear hK K))
  refine seqC_nil (hK' _ _ ?_)
  clear hK' K' hQ' Q'
  have hPI1 := hPI.drew.grown hg1 (Nat.le_refl _)
  replace h71 : IRow w1 (w.heap.size + 1 + 1) 56 .u8 (key17 kz) := h71
  have hL := key17_B hk
  have hrL : Unit → rL kz = splitL (fun k => (clampL (key17 kz)).getD k 0) := fun _ => rfl
  have hrA := rL_A hk
  have hRk : ∃ R, rL kz = R := ⟨_, rfl⟩
  obtain ⟨R, hR0⟩ := hRk
  have hRk : Unit → R = rL kz := fun _ => hR0.symm
  rw [hR0] at hrA
  replace hrL : Unit → R = splitL (fun k => (clampL (key17 kz)).getD k 0) := fun _ => by rw [hRk ()]; exact hrL ()
  clear hR0
  generalize key17 kz = L0 at h71 hL hrL
  clear hPI h7 hBk hg1 s1 e9 ck16
  go_wp2_with fail
  have hq : VRow (w1.alloc (.cells #[Value.int .i64 3, Value.int .i64 7, Value.int .i64 11, Value.int .i64 15] 3)) w1.heap.size 3 [Value.int .i64 3, Value.int .i64 7, Value.int .i64 11, Value.int .i64 15] := VRow.new' rfl rfl
  have hql : w.heap.size + 1 + 1 < w1.heap.size := h71.lt
  have h7 : IRow (w1.alloc (.cells #[Value.int .i64 3, Value.int .i64 7, Value.int .i64 11, Value.int .i64 15] 3)) (w.heap.size + 1 + 1) 56 .u8 (L0) := h71.alloc _
  have hPI : PI w (w1.alloc (.cells #[Value.int .i64 3, Value.int .i64 7, Value.int .i64 11, Value.int .i64 15] 3)) := hPI1.alloc _
  refine wp_loop_rounds 5 ?_
  refine rounds_abs (fun W => IRow W (w.heap.size + 1 + 1) 56 .u8 (L0) ∧ VRow W w1.heap.size 3 [Value.int .i64 3, Value.int .i64 7, Value.int .i64 11, Value.int .i64 15] ∧ PI w W) ⟨h7, hq, hPI⟩ ?_
  clear h7 hq hPI h71 hPI1
  obtain ⟨qb, hqb⟩ : ∃ qb, qb = w1.heap.size := ⟨_, rfl⟩
  rw [← hqb] at hql ⊢
  clear hqb
  rintro W ⟨h7, hq, hPI⟩
  obtain ⟨X, hX⟩ : ∃ X, (L0).getD 3 0 = X := ⟨_, rfl⟩
  have c7 := h7.cell (k := 3) (by rw [hL.len]; decide)
  have f7 := h7.frozen 3
  have cq : _ = some (Value.int .i64 3) := hq.cell (k := 0) rfl
  have xb := getD_bd' hL.bd 3
  rw [hX] at c7 xb
  have ho := and15 X xb
  rw [rounds_succ]
  go_wp2_with fail
  refine rounds_abs (fun W => IRow W (w.heap.size + 1 + 1) 56 .u8 (sa (L0) 3) ∧ VRow W qb 3 [Value.int .i64 3, Value.int .i64 7, Value.int .i64 11, Value.int .i64 15] ∧ PI w W) ⟨by rw [sa_eq hX]; exact h7.set 3 _, hq.setO (by show qb ≠ w.heap.size + 1 + 1; omega) _, hPI.set (Nat.le_refl _) _ _⟩ ?_
  replace hL := hL.sa 3
  clear h7 hq hPI c7 f7 cq xb ho hX
  rintro W ⟨h7, hq, hPI⟩
  obtain ⟨X, hX⟩ : ∃ X, (sa (L0) 3).getD 7 0 = X := ⟨_, rfl⟩
  have c7 := h7.cell (k := 7) (by rw [hL.len]; decide)
  have f7 := h7.frozen 7
  have cq : _ = some (Value.int .i64 7) := hq.cell (k := 1) rfl
  have xb := getD_bd' hL.bd 7
  rw [hX] at c7 xb
  have ho := and15 X xb
  rw [rounds_succ]
  go_wp2_with fail
  refine rounds_abs (fun W => IRow W (w.heap.size + 1 + 1) 56 .u8 (sa (sa (L0) 3) 7) ∧ VRow W qb 3 [Value.int .i64 3, Value.int .i64 7, Value.int .i64 11, Value.int .i64 15] ∧ PI w W) ⟨by rw [sa_eq hX]; exact h7.set 7 _, hq.setO (by show qb ≠ w.heap.size + 1 + 1; omega) _, hPI.set (Nat.le_refl _) _ _⟩ ?_
  replace hL := hL.sa 7
  clear h7 hq hPI c7 f7 cq xb ho hX
  rintro W ⟨h7, hq, hPI⟩
  obtain ⟨X, hX⟩ : ∃ X, (sa (sa (L0) 3) 7).getD 11 0 = X := ⟨_, rfl⟩
  have c7 := h7.cell (k := 11) (by rw [hL.len]; decide)
  have f7 := h7.frozen 11
  have cq : _ = some (Value.int .i64 11) := hq.cell (k := 2) rfl
  have xb := getD_bd' hL.bd 11
  rw [hX] at c7 xb
  have ho := and15 X xb
  rw [rounds_succ]
  go_wp2_with fail
  refine rounds_abs (fun W => IRow W (w.heap.size + 1 + 1) 56 .u8 (sa (sa (sa (L0) 3) 7) 11) ∧ VRow W qb 3 [Value.int .i64 3, Value.int .i64 7, Value.int .i64 11, Value.int .i64 15] ∧ PI w W) ⟨by rw [sa_eq hX]; exact h7.set 11 _, hq.setO (by show qb ≠ w.heap.size + 1 + 1; omega) _, hPI.set (Nat.le_refl _) _ _⟩ ?_
  replace hL := hL.sa 11
  clear h7 hq hPI c7 f7 cq xb ho hX
  rintro W ⟨h7, hq, hPI⟩
  obtain ⟨X, hX⟩ : ∃ X, (sa (sa (sa (L0) 3) 7) 11).getD 15 0 = X := ⟨_, rfl⟩
  have c7 := h7.cell (k := 15) (by rw [hL.len]; decide)
  have f7 := h7.frozen 15
  have cq : _ = some (Value.int .i64 15) := hq.cell (k := 3) rfl
  have xb := getD_bd' hL.bd 15
  rw [hX] at c7 xb
  have ho := and15 X xb
  rw [rounds_succ]
  go_wp2_with fail
  refine rounds_abs (fun W => IRow W (w.heap.size + 1 + 1) 56 .u8 (sa (sa (sa (sa (L0) 3) 7) 11) 15) ∧ VRow W qb 3 [Value.int .i64 3, Value.int .i64 7, Value.int .i64 11, Value.int .i64 15] ∧ PI w W) ⟨by rw [sa_eq hX]; exact h7.set 15 _, hq.setO (by show qb ≠ w.heap.size + 1 + 1; omega) _, hPI.set (Nat.le_refl _) _ _⟩ ?_
  replace hL := hL.sa 15
  clear h7 hq hPI c7 f7 cq xb ho hX
  rintro w1 ⟨h71, hq, hPI1⟩
  clear hq
  rw [rounds_succ]
  go_wp2_with fail
  have hq : VRow (w1.alloc (.cells #[Value.int .i64 4, Value.int .i64 8, Value.int .i64 12] 3)) w1.heap.size 3 [Value.int .i64 4, Value.int .i64 8, Value.int .i64 12] := VRow.new' rfl rfl
  have hql : w.heap.size + 1 + 1 < w1.heap.size := h71.lt
  have h7 : IRow (w1.alloc (.cells #[Value.int .i64 4, Value.int .i64 8, Value.int .i64 12] 3)) (w.heap.size + 1 + 1) 56 .u8 (sa (sa (sa (sa (L0) 3) 7) 11) 15) := h71.alloc _
  have hPI : PI w (w1.alloc (.cells #[Value.int .i64 4, Value.int .i64 8, Value.int .i64 12] 3)) := hPI1.alloc _
  refine wp_loop_rounds 4 ?_
  refine rounds_abs (fun W => IRow W (w.heap.size + 1 + 1) 56 .u8 (sa (sa (sa (sa (L0) 3) 7) 11) 15) ∧ VRow W w1.heap.size 3 [Value.int .i64 4, Value.int .i64 8, Value.int .i64 12] ∧ PI w W) ⟨h7, hq, hPI⟩ ?_
  clear h7 hq hPI h71 hPI1
  obtain ⟨qb, hqb⟩ : ∃ qb, qb = w1.heap.size := ⟨_, rfl⟩
  rw [← hqb] at hql ⊢
  clear hqb
  rintro W ⟨h7, hq, hPI⟩
  obtain ⟨X, hX⟩ : ∃ X, (sa (sa (sa (sa (L0) 3) 7) 11) 15).getD 4 0 = X := ⟨_, rfl⟩
  have c7 := h7.cell (k := 4) (by rw [hL.len]; decide)
  have f7 := h7.frozen 4
  have cq : _ = some (Value.int .i64 4) := hq.cell (k := 0) rfl
  have xb := getD_bd' hL.bd 4
  rw [hX] at c7 xb
  have ho := and252 X xb
  rw [rounds_succ]
  go_wp2_with fail
  refine rounds_abs (fun W => IRow W (w.heap.size + 1 + 1) 56 .u8 (sb (sa (sa (sa (sa (L0) 3) 7) 11) 15) 4) ∧ VRow W qb 3 [Value.int .i64 4, Value.int .i64 8, Value.int .i64 12] ∧ PI w W) ⟨by rw [sb_eq hX]; exact h7.set 4 _, hq.setO (by show qb ≠ w.heap.size + 1 + 1; omega) _, hPI.set (Nat.le_refl _) _ _⟩ ?_
  replace hL := hL.sb 4
  clear h7 hq hPI c7 f7 cq xb ho hX
  rintro W ⟨h7, hq, hPI⟩
  obtain ⟨X, hX⟩ : ∃ X, (sb (sa (sa (sa (sa (L0) 3) 7) 11) 15) 4).getD 8 0 = X := ⟨_, rfl⟩
  have c7 := h7.cell (k := 8) (by rw [hL.len]; decide)
  have f7 := h7.frozen 8
  have cq : _ = some (Value.int .i64 8) := hq.cell (k := 1) rfl
  have xb := getD_bd' hL.bd 8
  rw [hX] at c7 xb
  have ho := and252 X xb
  rw [rounds_succ]
  go_wp2_with fail
  refine rounds_abs (fun W => IRow W (w.heap.size + 1 + 1) 56 .u8 (sb (sb (sa (sa (sa (sa (L0) 3) 7) 11) 15) 4) 8) ∧ VRow W qb 3 [Value.int .i64 4, Value.int .i64 8, Value.int .i64 12] ∧ PI w W) ⟨by rw [sb_eq hX]; exact h7.set 8 _, hq.setO (by show qb ≠ w.heap.size + 1 + 1; omega) _, hPI.set (Nat.le_refl _) _ _⟩ ?_
  replace hL := hL.sb 8
  clear h7 hq hPI c7 f7 cq xb ho hX
  rintro W ⟨h7, hq, hPI⟩
  obtain ⟨X, hX⟩ : ∃ X, (sb (sb (sa (sa (sa (sa (L0) 3) 7) 11) 15) 4) 8).getD 12 0 = X := ⟨_, rfl⟩
  have c7 := h7.cell (k := 12) (by rw [hL.len]; decide)
  have f7 := h7.frozen 12
  have cq : _ = some (Value.int .i64 12) := hq.cell (k := 2) rfl
  have xb := getD_bd' hL.bd 12
  rw [hX] at c7 xb
  have ho := and252 X xb
  rw [rounds_succ]
  go_wp2_with fail
  refine rounds_abs (fun W => IRow W (w.heap.size + 1 + 1) 56 .u8 (sb (sb (sb (sa (sa (sa (sa (L0) 3) 7) 11) 15) 4) 8) 12) ∧ VRow W qb 3 [Value.int .i64 4, Value.int .i64 8, Value.int .i64 12] ∧ PI w W) ⟨by rw [sb_eq hX]; exact h7.set 12 _, hq.setO (by show qb ≠ w.heap.size + 1 + 1; omega) _, hPI.set (Nat.le_refl _) _ _⟩ ?_
  replace hL := hL.sb 12
  clear h7 hq hPI c7 f7 cq xb ho hX
  rintro w1 ⟨h71, hq, hPI1⟩
  clear hq
  rw [rounds_succ]
  replace hrL : Unit → R = splitL (fun k => (sb (sb (sb (sa (sa (sa (sa (L0) 3) 7) 11) 15) 4) 8) 12).getD k 0) := hrL
  generalize sb (sb (sb (sa (sa (sa (sa (L0) 3) 7) 11) 15) 4) 8) 12 = L7 at h71 hL hrL
  have hlen7 := hL.len
  have h72 := h71
  have SP := Lib.hid (fun (l : List Int) (hl : l.length = 17) (hb : ∀ x ∈ l, 0 ≤ x ∧ x < 256) (w : World) => split_calls l hl hb w)
  have CC := Lib.hid (fun (g : Nat) (s0 : List Int) (hs0 : A5 s0) (w : World) (hr : IRow w g 59 .u64 s0) => carry_calls g 59 s0 hs0 w hr)
  have hz5 := zero5_A
  go_wp2_with (first
    | (refine wpList_load_vrow rfl rfl rfl h72 Try.underlying56 rfl (by rw [List.length_map, hlen7]; kernel_rfl) ?_; simp only [Act.put, List.setIfInBounds_toArray, List.set_cons_zero, List.set_cons_succ])
    | (go_at_call 28; (with_reducible refine (SP.out _ hlen7 hL.bd _).mono ?_); rintro e w2 ⟨rfl, hb1⟩; rw [← hrL ()]; have hPI2 := hPI1.belowS hb1; have hl2 : w.heap.size + 1 + 1 < w2.heap.size := (h71.belowS hb1).lt; have hn12 : IRow (w2.alloc (.cells (([0, 0, 0, 0, 0] : List Int).map (Value.int .u64)).toArray 59)) w2.heap.size 59 .u64 [0, 0, 0, 0, 0] := IRow.new rfl; clear hb1 hPI1 h71 h72)
    | (refine wpList_store_row rfl 59 _ _ rfl _ _ rfl rfl 59 _ hn12 (by rw [List.size_toArray, List.length_map, hrA.len]; kernel_rfl) (by simp [hrA.len]) ?c1 ?_; (case c1 => simp [Value.oneCell'])))
  have hJ : PJ w (((w2.alloc (.cells (([0, 0, 0, 0, 0] : List Int).map (Value.int .u64)).toArray 59)).setRow w2.heap.size (R.map (Value.int .u64)).toArray).alloc (.cells (([0, 0, 0, 0, 0] : List Int).map (Value.int .u64)).toArray 59)) w2.heap.size R [0, 0, 0, 0, 0] :=
    ⟨((hPI2.alloc _).setRow (by omega) _).alloc _, (VRow.setRow hn12 _).alloc _, IRow.new (by simp), by omega⟩
  obtain ⟨g, hg⟩ : ∃ g, g = w2.heap.size := ⟨_, rfl⟩
  rw [← hg] at hJ ⊢
  clear hg hl2 hn12 hPI2 hrL hlen7
  go_loopw [14] (fun u wr => ∃ m : Nat, 16 * m ≤ l.length + 15 ∧ u = .int .i64 (16 * (m : Int)) ∧ PJ w wr g R (psteps R l m)) (fun u _ => l.length + 16 - (intOf u).toNat)
  case atStart => exact ⟨0, by omega, rfl, hJ⟩
  clear hJ
  case round =>
    obtain ⟨m, hm9, rfl, hJ⟩ := hrel
    by_cases hlt : 16 * m < l.length
    · have hH := psteps_A R l m
      have hnext : Unit → psteps R l (m + 1) = pstep R (psteps R l m) (l.drop (16 * m)) := fun _ => rfl
      generalize psteps R l m = H at hJ hH hnext
      obtain ⟨b0, off0, rfl, hAl⟩ := hBat (by omega)
      obtain ⟨src, hsrc⟩ : ∃ src, src = l.drop (16 * m) := ⟨_, rfl⟩
      have hsb : ∀ x ∈ src, 0 ≤ x ∧ x < 256 := fun x hx => hl x (List.mem_of_mem_drop (hsrc ▸ hx))
      have hsl : Unit → src.length = l.length - 16 * m := fun _ => by rw [hsrc]; simp
      have hsp : Bs w (.slice (some ⟨b0, off0 + 16 * m, none⟩) (l.length - 16 * m) (cv - 16 * m)) src := by
        have hsl' := hsl ()
        rw [← hsl']
        refine Bs.ofAt ⟨hAl.lt, fun k hk => ?_⟩ hsb (by omega) (by omega)
        have h1 := hAl.cell (16 * m + k) (by omega)
        rw [Nat.add_assoc, h1, hsrc]
        simp [List.getD_eq_getElem?_getD, List.getElem?_drop]
      rw [← hsrc] at hnext
      clear hsrc
      obtain ⟨N, hN⟩ : ∃ N, min src.length 16 = N := ⟨_, rfl⟩
      have hN16 : N ≤ 16 := by omega
      have e9 : goInt ((min src.length 16 : Nat) : Int) = Value.int .i64 (N : Int) := by rw [hN]; rfl
      have s1 := slice17h wr.heap.size
      have s2 := slice_from b0 off0 l.length cv (16 * m) (by omega) (by omega) (16 * (m : Int)) (by omega)
      have hd1 : 16 * (m : Int) ≤ (l.length : Int) := by omega
      have hd2 : ¬ (cv = 16 * m) := by omega
      clear hBat
      go_wp2_with fail
      have h15 : IRow ((wr.alloc (.cells ((List.replicate 17 0).map (Value.int .u8)).toArray 56)).drew) wr.heap.size 56 .u8 (List.replicate 17 0) := (IRow.new rfl).drew
      have hJ1 : PJ w ((wr.alloc (.cells ((List.replicate 17 0).map (Value.int .u8)).toArray 56)).drew) g R H := (hJ.alloc _).drew
      have hgl : g + 2 ≤ wr.heap.size := by have := hJ.hH.lt; omega
      have hsp1 : Bs ((wr.alloc (.cells ((List.replicate 17 0).map (Value.int .u8)).toArray 56)).drew) _ src := Bs_below hsp hJ1.pi.hbel
      obtain ⟨gb, hgb⟩ : ∃ gb, gb = wr.heap.size := ⟨_, rfl⟩
      refine wp_region_plan 4 4 [(.h, 0), (.h, 1), (.h, 2), (.h, 3), (.w, 4), (.p, 5)] mixed (by kernel_rfl) (fun dst _ _ _ _ h => by cases dst <;> exact h) ?_
      intro Q' K' hQ' hK'
      simp only [planOps_cons, planOps_nil, getD_zero, getD_succ]
      repeat (first
        | (refine seqC_w (fun K hK => ?_); rw [if_pos (by rfl)]; refine wp_copy_bs _ _ _ 22 22 rfl 5 Try.underlying22 (by kernel_rfl) wr.heap.size 16 17 rfl h15 (by simp) _ rfl src hsp1 ?_; intro w3 h153 hg3; rw [e9]; simp only [Act.put, List.setIfInBounds_toArray, List.set_cons_zero, List.set_cons_succ]; refine hK _ _ ?_; clear hK K)
        | ((first | (with_reducible refine seqC_skip_h rfl ?_) | (with_reducible refine seqC_skip_p rfl ?_) | (with_reducible refine seqC_skip_e rfl ?_) | (with_reducible refine seqC_skip_w rfl ?_) | (with_reducible refine seqC_skip_b hB rfl ?_)); (try simp only [Act.put, List.setIfInBounds_toArray, List.set_cons_zero, List.set_cons_succ]))
        | (refine seqC_h (fun K hK => ?_); go_simp; (try go_bits); refine hK _ ?_; clear hK K)
        | (refine seqC_p (v := ?_) rfl (fun w' => ?_) ?_; rotate_left; go_simp; (try go_bits); (with_reducible rfl); (try simp only [Act.put, List.setIfInBounds_toArray, List.set_cons_zero, List.set_cons_succ]))
        | (refine seqC_e (v := ?_) rfl (fun w' hb' => ?_) ?_; rotate_left; (have hb1 := (bcell hb').1; clear hb'; go_simp; (try go_bits)); (with_reducible rfl); (try simp only [Act.put, List.setIfInBounds_toArray, List.set_cons_zero, List.set_cons_succ]))
        | (refine seqC_w (fun K hK => ?_); go_simp; (try go_bits); refine hK _ _ ?_; clear hK K))
      refine seqC_nil (hK' _ _ ?_)
      clear hK' K' hQ' Q'
      have hJ3 := hJ1.grown hg3 hgl
      rw [← hgb] at h153 hgl ⊢
      clear hJ hJ1 h15 hsp1 hg3 s1 s2 hgb e9
      have hmb : Unit → mblk src = (src.take 16 ++ (List.replicate 17 0).drop N).set N 1 := fun _ => by unfold mblk; rw [hN]
      rw [hN] at h153
      have hB := mblk_B hsb
      have l15 : (src.take 16 ++ (List.replicate 17 0).drop N).length = 17 := by
        have := hB.len; rw [hmb (), List.length_set] at this; exact this
      have c15 := h153.cell (k := N) (by rw [l15]; omega)
      have f15 := h153.frozen N
      have h15 : IRow (w3.setCell ⟨gb, N, none⟩ (.int .u8 1)) gb 56 .u8 (mblk src) := by rw [hmb ()]; exact h153.set N 1
      have hJ4 := hJ3.grown (setCell_grown w3 gb N (.int .u8 1)) hgl
      have hBl := hB.len
      have hC := splitL_A (fun k => getD_bd' hB.bd k)
      have hnx2 : pstep R H src = carryL (mall (addk H (splitL (fun k => (mblk src).getD k 0)) 5) R 5) := rfl
      have hND : (N : Int) < 17 := by omega
      obtain ⟨C, hC0⟩ : ∃ C, splitL (fun k => (mblk src).getD k 0) = C := ⟨_, rfl⟩
      have hCu : Unit → splitL (fun k => (mblk src).getD k 0) = C := fun _ => hC0
      rw [hC0] at hC
      rw [hC0] at hnx2
      clear hC0
      replace hnx2 : Unit → pstep R H src = carryL (mall (addk H C 5) R 5) := fun _ => hnx2
      clear h153 hJ3 hmb l15 hsl hsp hN hsb
      go_wp2_with (first
        | (refine wpList_load_vrow rfl rfl rfl h15 Try.underlying56 rfl (by rw [List.length_map, hBl]; kernel_rfl) ?_; simp only [Act.put, List.setIfInBounds_toArray, List.set_cons_zero, List.set_cons_succ])
        | (go_at_call 28; (with_reducible refine (SP.out _ hBl hB.bd _).mono ?_); rintro e w4 ⟨rfl, hb1⟩; rw [hCu ()]; have hJ5 := hJ4.belowS hb1; clear hb1 hJ4 h15 c15 f15))
      clear hCu
      have hC5 := hC.len
      obtain ⟨x0, hxx0⟩ : ∃ x, C.getD 0 0 = x := ⟨_, rfl⟩
      have ix0 : ∀ w, (Instr.index 59 (.agg (C.map (Value.int .u64)).toArray) (.int .i64 0)).run Try.prog w = .ok (.int .u64 x0) w := fun w => by rw [← hxx0]; exact index5 C hC5 0 (by decide) w
      have wx0 : W64 x0 := hxx0 ▸ hC.wd 0
      have hx0 : Unit → C.getD 0 0 = x0 := fun _ => hxx0
      clear hxx0
      obtain ⟨x1, hxx1⟩ : ∃ x, C.getD 1 0 = x := ⟨_, rfl⟩
      have ix1 : ∀ w, (Instr.index 59 (.agg (C.map (Value.int .u64)).toArray) (.int .i64 1)).run Try.prog w = .ok (.int .u64 x1) w := fun w => by rw [← hxx1]; exact index5 C hC5 1 (by decide) w
      have wx1 : W64 x1 := hxx1 ▸ hC.wd 1
      have hx1 : Unit → C.getD 1 0 = x1 := fun _ => hxx1
      clear hxx1
      obtain ⟨x2, hxx2⟩ : ∃ x, C.getD 2 0 = x := ⟨_, rfl⟩
      have ix2 : ∀ w, (Instr.index 59 (.agg (C.map (Value.int .u64)).toArray) (.int .i64 2)).run Try.prog w = .ok (.int .u64 x2) w := fun w => by rw [← hxx2]; exact index5 C hC5 2 (by decide) w
      have wx2 : W64 x2 := hxx2 ▸ hC.wd 2
      have hx2 : Unit → C.getD 2 0 = x2 := fun _ => hxx2
      clear hxx2
      obtain ⟨x3, hxx3⟩ : ∃ x, C.getD 3 0 = x := ⟨_, rfl⟩
      have ix3 : ∀ w, (Instr.index 59 (.agg (C.map (Value.int .u64)).toArray) (.int .i64 3)).run Try.prog w = .ok (.int .u64 x3) w := fun w => by rw [← hxx3]; exact index5 C hC5 3 (by decide) w
      have wx3 : W64 x3 := hxx3 ▸ hC.wd 3
      have hx3 : Unit → C.getD 3 0 = x3 := fun _ => hxx3
      clear hxx3
      obtain ⟨x4, hxx4⟩ : ∃ x, C.getD 4 0 = x := ⟨_, rfl⟩
      have ix4 : ∀ w, (Instr.index 59 (.agg (C.map (Value.int .u64)).toArray) (.int .i64 4)).run Try.prog w = .ok (.int .u64 x4) w := fun w => by rw [← hxx4]; exact index5 C hC5 4 (by decide) w
      have wx4 : W64 x4 := hxx4 ▸ hC.wd 4
      have hx4 : Unit → C.getD 4 0 = x4 := fun _ => hxx4
      clear hxx4
      refine wp_loop_rounds 6 ?_
      refine rounds_abs (fun W => PJ w W g R (addk H C 0)) hJ5 ?_
      clear hJ5
      rintro W hJ
      have hA0 := hH.addk C 0
      have c1 := hJ.hH.cell (k := 0) (by rw [hA0.len]; decide)
      have f1 := hJ.hH.frozen 0
      have y1 := hA0.wd 0
      have hn1 : Unit → addk H C (0 + 1) = (addk H C 0).set 0 (((addk H C 0).getD 0 0 + x0) % 18446744073709551616) := fun _ => by rw [addk_succ, hx0 ()]
      generalize (addk H C 0).getD 0 0 = Y at c1 y1 hn1
      have y2 := y1.1
      have y3 := y1.2
      have x2 := wx0.1
      have x3 := wx0.2
      rw [rounds_succ]
      go_wp2_with fail
      refine rounds_abs (fun W => PJ w W g R (addk H C (0 + 1))) ?_ ?_
      · rw [hn1 ()]
        first | exact hJ.setH 0 _ | (rw [← IntKind.wrap_u64]; exact hJ.setH 0 _)
      clear hJ c1 f1 y1 hn1 hA0 y2 y3 x2 x3
      rintro W hJ
      have hA1 := hH.addk C 1
      have c1 := hJ.hH.cell (k := 1) (by rw [hA1.len]; decide)
      have f1 := hJ.hH.frozen 1
      have y1 := hA1.wd 1
      have hn1 : Unit → addk H C (1 + 1) = (addk H C 1).set 1 (((addk H C 1).getD 1 0 + x1) % 18446744073709551616) := fun _ => by rw [addk_succ, hx1 ()]
      generalize (addk H C 1).getD 1 0 = Y at c1 y1 hn1
      have y2 := y1.1
      have y3 := y1.2
      have x2 := wx1.1
      have x3 := wx1.2
      rw [rounds_succ]
      go_wp2_with fail
      refine rounds_abs (fun W => PJ w W g R (addk H C (1 + 1))) ?_ ?_
      · rw [hn1 ()]
        first | exact hJ.setH 1 _ | (rw [← IntKind.wrap_u64]; exact hJ.setH 1 _)
      clear hJ c1 f1 y1 hn1 hA1 y2 y3 x2 x3
      rintro W hJ
      have hA2 := hH.addk C 2
      have c1 := hJ.hH.cell (k := 2) (by rw [hA2.len]; decide)
      have f1 := hJ.hH.frozen 2
      have y1 := hA2.wd 2
      have hn1 : Unit → addk H C (2 + 1) = (addk H C 2).set 2 (((addk H C 2).getD 2 0 + x2) % 18446744073709551616) := fun _ => by rw [addk_succ, hx2 ()]
      generalize (addk H C 2).getD 2 0 = Y at c1 y1 hn1
      have y2 := y1.1
      have y3 := y1.2
      have x2 := wx2.1
      have x3 := wx2.2
      rw [rounds_succ]
      go_wp2_with fail
      refine rounds_abs (fun W => PJ w W g R (addk H C (2 + 1))) ?_ ?_
      · rw [hn1 ()]
        first | exact hJ.setH 2 _ | (rw [← IntKind.wrap_u64]; exact hJ.setH 2 _)
      clear hJ c1 f1 y1 hn1 hA2 y2 y3 x2 x3
      rintro W hJ
      have hA3 := hH.addk C 3
      have c1 := hJ.hH.cell (k := 3) (by rw [hA3.len]; decide)
      have f1 := hJ.hH.frozen 3
      have y1 := hA3.wd 3
      have hn1 : Unit → addk H C (3 + 1) = (addk H C 3).set 3 (((addk H C 3).getD 3 0 + x3) % 18446744073709551616) := fun _ => by rw [addk_succ, hx3 ()]
      generalize (addk H C 3).getD 3 0 = Y at c1 y1 hn1
      have y2 := y1.1
      have y3 := y1.2
      have x2 := wx3.1
      have x3 := wx3.2
      rw [rounds_succ]
      go_wp2_with fail
      refine rounds_abs (fun W => PJ w W g R (addk H C (3 + 1))) ?_ ?_
      · rw [hn1 ()]
        first | exact hJ.setH 3 _ | (rw [← IntKind.wrap_u64]; exact hJ.setH 3 _)
      clear hJ c1 f1 y1 hn1 hA3 y2 y3 x2 x3
      rintro W hJ
      have hA4 := hH.addk C 4
      have c1 := hJ.hH.cell (k := 4) (by rw [hA4.len]; decide)
      have f1 := hJ.hH.frozen 4
      have y1 := hA4.wd 4
      have hn1 : Unit → addk H C (4 + 1) = (addk H C 4).set 4 (((addk H C 4).getD 4 0 + x4) % 18446744073709551616) := fun _ => by rw [addk_succ, hx4 ()]
      generalize (addk H C 4).getD 4 0 = Y at c1 y1 hn1
      have y2 := y1.1
      have y3 := y1.2
      have x2 := wx4.1
      have x3 := wx4.2
      rw [rounds_succ]
      go_wp2_with fail
      refine rounds_abs (fun W => PJ w W g R (addk H C (4 + 1))) ?_ ?_
      · rw [hn1 ()]
        first | exact hJ.setH 4 _ | (rw [← IntKind.wrap_u64]; exact hJ.setH 4 _)
      clear hJ c1 f1 y1 hn1 hA4 y2 y3 x2 x3
      rintro w4 hJ
      have hH5 := hH.addk C 5
      generalize addk H C 5 = H5 at hJ hH5 hnx2
      clear ix0 wx0 hx0 ix1 wx1 hx1 ix2 wx2 hx2 ix3 wx3 hx3 ix4 wx4 hx4
      rw [rounds_succ]
      go_wp2_with fail
      have hn19 : IRow (w4.alloc (.cells (([0, 0, 0, 0, 0] : List Int).map (Value.int .u64)).toArray 59)) w4.heap.size 59 .u64 [0, 0, 0, 0, 0] := IRow.new rfl
      have hJ6 := hJ.alloc (.cells (([0, 0, 0, 0, 0] : List Int).map (Value.int .u64)).toArray 59)
      have hgt : g + 2 ≤ w4.heap.size := by have := hJ.hH.lt; omega
      obtain ⟨gt, hgt2⟩ : ∃ gt, gt = w4.heap.size := ⟨_, rfl⟩
      rw [← hgt2] at hn19 hgt ⊢
      clear hJ hgt2
      go_loopw [89] (fun u wr => ∃ j : Nat, j ≤ 5 ∧ u = .int .i64 (j : Int) ∧ PJ w wr g R H5 ∧ IRow wr gt 59 .u64 (mall H5 R j)) (fun u _ => 5 - (intOf u).toNat)
      case atStart => exact ⟨0, by omega, rfl, hJ6, hn19⟩
      clear hJ6 hn19
      case round =>
        obtain ⟨j, hj9, rfl, hJ, hT⟩ := hrel
        by_cases hj5 : j < 5
        · have hTA := mall_A H5 R j
          have hn3 : Unit → mall H5 R (j + 1) = mrow H5 R (mall H5 R j) j 5 := fun _ => rfl
          generalize mall H5 R j = T at hT hTA hn3
          have hjb : decide ((j : Int) < 5) = true := by rw [decide_eq_true_eq]; omega
          go_wp2_with fail
          try rw [hjb]
          clear hjb
          go_loopw [92] (fun u wr => ∃ l : Nat, l ≤ 5 ∧ u = .int .i64 (l : Int) ∧ PJ w wr g R H5 ∧ IRow wr gt 59 .u64 (mrow H5 R T j l)) (fun u _ => 5 - (intOf u).toNat)
          case atStart => exact ⟨0, by omega, rfl, hJ, hT⟩
          clear hJ hT
          case round =>
            obtain ⟨q, hq9, rfl, hJ, hT⟩ := hrel
            by_cases hq5 : q < 5
            · have hTB := hTA.mrow H5 R j q
              have hn4 : Unit → mrow H5 R T j (q + 1) = (mrow H5 R T j q).set ((j + q) % 5) (((mrow H5 R T j q).getD ((j + q) % 5) 0 + prod H5 R j q) % 18446744073709551616) := fun _ => by rw [mrow_succ]
              generalize mrow H5 R T j q = U at hT hTB hn4
              have c1 := hJ.hH.cell (k := j) (by rw [hH5.len]; omega)
              have c2 := hJ.hR.cell (k := q) (by rw [hrA.len]; omega)
              have c3 := hT.cell (k := (j + q) % 5) (by rw [hTB.len]; omega)
              have f3 := hT.frozen ((j + q) % 5)
              have hp : Unit → prod H5 R j q = if 4 < j + q then IntKind.u64.wrap (IntKind.u64.wrap (H5.getD j 0 * R.getD q 0) * 5) else IntKind.u64.wrap (H5.getD j 0 * R.getD q 0) := fun _ => rfl
              generalize H5.getD j 0 = X at c1 hp
              generalize R.getD q 0 = Y at c2 hp
              generalize U.getD ((j + q) % 5) 0 = Z at c3 hn4
              have d1 : ((j : Int) + (q : Int)) % 5 < 5 := by omega
              have d2 : 0 ≤ ((j : Int) + (q : Int)) % 5 := by omega
              have d3 : (((j : Int) + (q : Int)) % 5).toNat = (j + q) % 5 := by omega
              have d4 : (j : Int) < 5 := by omega
              have d5 : (q : Int) < 5 := by omega
              go_wp2_with fail
              refine wp_region_sd mixed (by kernel_rfl) ?_
              repeat (refine wpStill_step (fun K hK => ?_); go_simp; (try go_bits); refine hK _ ?_; clear hK K)
              refine wpStill_nil ?_
              by_cases hjq : 4 < j + q
              · have d6 : 4 < (j : Int) + (q : Int) := by omega
                go_wp2_with fail
                go_roundw
                case rel => exact ⟨q + 1, by omega, by go_num, (hJ.grown (setCell_grown _ _ _ _) hgt).drew, by rw [hn4 (), hp (), if_pos hjq, ← IntKind.wrap_u64]; exact (hT.set _ _).drew⟩
                case measure => simp [intOf]; omega
              · have d6 : ¬ 4 < (j : Int) + (q : Int) := by omega
                go_wp2_with fail
                go_roundw
                case rel => exact ⟨q + 1, by omega, by go_num, (hJ.grown (setCell_grown _ _ _ _) hgt).drew, by rw [hn4 (), hp (), if_neg hjq, ← IntKind.wrap_u64]; exact (hT.set _ _).drew⟩
                case measure => simp [intOf]; omega
            · obtain rfl : q = 5 := by omega
              clear hq9 hq5
              go_wp2_with fail
              go_roundw
              case rel => exact ⟨j + 1, by omega, by go_num, hJ, by rw [hn3 ()]; exact hT⟩
              case measure => simp [intOf]; omega
        · obtain rfl : j = 5 := by omega
          clear hj9 hj5
          rw [show ((5 : Nat) : Int) = 5 from rfl]
          have hTA := mall_A H5 R 5
          generalize mall H5 R 5 = T at hT hTA hnx2
          go_wp2_with fail
          refine (CC.out gt T hTA _ hT).mono ?_
          rintro e w5 ⟨rfl, hT5, hg5⟩
          have hJ5 := hJ.grown hg5 hgt
          have hTC := hTA.carryL
          generalize carryL T = T2 at hT5 hTC hnx2
          have hlT := hTC.len
          have hHr := hJ5.hH
          have hlH := hH5.len
          clear hJ hT hg5
          go_wp2_with (first
            | (refine wpList_load_vrow rfl rfl rfl hT5 Try.underlying59 rfl (by rw [List.length_map, hlT]; kernel_rfl) ?_; simp only [Act.put, List.setIfInBounds_toArray, List.set_cons_zero, List.set_cons_succ])
            | (refine wpList_store_row rfl 59 _ _ rfl _ _ rfl rfl 59 _ hHr (by rw [List.size_toArray, List.length_map, hlT]; kernel_rfl) (by simp [hlH, hlT]) ?c1 ?_; (case c1 => simp [Value.oneCell'])))
          go_roundw
          case rel => exact ⟨m + 1, by omega, by go_num, by rw [hnext (), hnx2 ()]; exact hJ5.rowH T2⟩
          case measure => simp [intOf]; omega
    · have hmE : m = (l.length + 15) / 16 := by omega
      go_wp2_with fail
      have hH := psteps_A R l m
      generalize hHH : psteps R l m = H at hJ hH
      have hfin : Unit → polyH kz l = carryL H := fun _ => by unfold polyH; rw [← hRk (), ← hmE, hHH]
      clear hHH
      refine (CC.out (g + 1) H hH _ hJ.hH).mono ?_
      rintro e w5 ⟨rfl, hT5, hg5⟩
      have hJ5 := hJ.carryH hT5 hg5
      clear hT5 hg5 hJ
      have hHC := hH.carryL
      generalize carryL H = H2 at hJ5 hHC hfin
      have hlH := hHC.len
      have hHr := hJ5.hH
      have hn23 : IRow (w5.alloc (Obj.cells #[Value.int .u64 0, Value.int .u64 0, Value.int .u64 0, Value.int .u64 0, Value.int .u64 0] 59)) w5.heap.size 59 .u64 [0, 0, 0, 0, 0] := IRow.new' rfl rfl
      have h23 : IRow ((w5.alloc (Obj.cells #[Value.int .u64 0, Value.int .u64 0, Value.int .u64 0, Value.int .u64 0, Value.int .u64 0] 59)).setRow w5.heap.size (H2.map (Value.int .u64)).toArray) w5.heap.size 59 .u64 H2 := VRow.setRow hn23 _
      have hgt : g + 2 ≤ w5.heap.size := by have := hJ5.hH.lt; omega
      have hJ6 : PJ w ((w5.alloc (Obj.cells #[Value.int .u64 0, Value.int .u64 0, Value.int .u64 0, Value.int .u64 0, Value.int .u64 0] 59)).setRow w5.heap.size (H2.map (Value.int .u64)).toArray) g R H2 := (hJ5.alloc _).setRowO hgt _
      have c0 := h23.cell (k := 0) (by rw [hlH]; decide)
      have f0 := h23.frozen 0
      have y1 := hHC.wd 0
      have hg0 : Unit → g0L H2 = H2.set 0 ((H2.getD 0 0 + 5) % 18446744073709551616) := fun _ => rfl
      have hGA := hHC.g0L
      generalize H2.getD 0 0 = X0 at c0 y1 hg0
      have y2 := y1.1
      have y3 := y1.2
      go_wp2_with (first
        | (refine wpList_load_vrow rfl rfl rfl hHr Try.underlying59 rfl (by rw [List.length_map, hlH]; kernel_rfl) ?_; simp only [Act.put, List.setIfInBounds_toArray, List.set_cons_zero, List.set_cons_succ])
        | (refine wpList_store_row rfl 59 _ _ rfl _ _ rfl rfl 59 _ hn23 (by rw [List.size_toArray, List.length_map, hlH]; kernel_rfl) (by simp [hlH]) ?c1 ?_; (case c1 => simp [Value.oneCell'])))
      refine wp_abs (fun W => PJ w W g R H2 ∧ IRow W w5.heap.size 59 .u64 (g0L H2)) ⟨hJ6.grown (setCell_grown _ _ _ _) hgt, ?_⟩ ?_
      · rw [hg0 ()]
        first | exact h23.set 0 _ | (rw [← IntKind.wrap_u64]; exact h23.set 0 _)
      clear hJ5 hn23 h23 hJ6 c0 f0 y1 y2 y3 hg0 hHr
      obtain ⟨gt, hgt2⟩ : ∃ gt, gt = w5.heap.size := ⟨_, rfl⟩
      rw [← hgt2] at hgt ⊢
      clear hgt2
      rintro w6 ⟨hJ, hG⟩
      have hfg : Unit → finL H2 = if 0 < (cin (g0L H2) 4).getD 4 0 / 67108864 then ct2 (cin (g0L H2) 4) else H2 := fun _ => rfl
      generalize g0L H2 = G0 at hG hGA hfg
      go_loopw [127] (fun u wr => ∃ i : Nat, i ≤ 4 ∧ u = .int .i64 (i : Int) ∧ PJ w wr g R H2 ∧ IRow wr gt 59 .u64 (cin G0 i)) (fun u _ => 4 - (intOf u).toNat)
      case atStart => exact ⟨0, by omega, rfl, hJ, hG⟩
      clear hJ hG
      case round =>
        obtain ⟨i, hi9, rfl, hJ, hr⟩ := hrel
        by_cases hli : i < 4
        · have ht := hGA.cin i
          have htn : Unit → cin G0 (i + 1) = cs2 (cs1 (cin G0 i) i) i := fun _ => by rw [cin]
          generalize cin G0 i = t at hr ht htn
          have c1 := hr.cell (k := i + 1) (by rw [ht.len]; omega)
          have c0 := hr.cell (k := i) (by rw [ht.len]; omega)
          have f1 := hr.frozen (i + 1)
          have w1 := ht.wd (i + 1)
          have w0 := ht.wd i
          have e1 : Unit → cs1 t i = t.set (i + 1) ((t.getD (i + 1) 0 + t.getD i 0 / 67108864) % 18446744073709551616) := fun _ => rfl
          have g0 : (cs1 t i).getD i 0 = t.getD i 0 := by unfold cs1; rw [getD_set, if_neg (by omega)]
          have hd1 : (i : Int) + 1 < 5 := by omega
          have hd2 : 0 ≤ (i : Int) + 1 := by omega
          have hd3 : (i : Int) < 5 := by omega
          have hd4 : ((i : Int) + 1).toNat = i + 1 := by omega
          generalize t.getD (i + 1) 0 = X at c1 w1 e1
          generalize t.getD i 0 = Y at c0 w0 e1 g0
          have y1 := w0.1
          have y2 := w0.2
          have x1 := w1.1
          have x2 := w1.2
          go_wp2_with fail
          refine wp_region_plan 10 10 [(.h, 0), (.h, 1), (.h, 2), (.h, 3), (.h, 4), (.h, 5), (.h, 6), (.h, 7), (.h, 8), (.h, 9), (.w, 10)] mixed (by kernel_rfl) (fun dst _ _ _ _ h => by cases dst <;> exact h) ?_
          intro Q' K' hQ' hK'
          simp only [planOps_cons, planOps_nil, getD_zero, getD_succ]
          repeat (first
            | ((first | (with_reducible refine seqC_skip_h rfl ?_) | (with_reducible refine seqC_skip_p rfl ?_) | (with_reducible refine seqC_skip_e rfl ?_) | (with_reducible refine seqC_skip_w rfl ?_) | (with_reducible refine seqC_skip_b hB rfl ?_)); (try simp only [Act.put, List.setIfInBounds_toArray, List.set_cons_zero, List.set_cons_succ]))
            | (refine seqC_h (fun K hK => ?_); go_simp; (try go_bits); refine hK _ ?_; clear hK K)
            | (refine seqC_p (v := ?_) rfl (fun w' => ?_) ?_; rotate_left; go_simp; (try go_bits); (with_reducible rfl); (try simp only [Act.put, List.setIfInBounds_toArray, List.set_cons_zero, List.set_cons_succ]))
            | (refine seqC_e (v := ?_) rfl (fun w' hb' => ?_) ?_; rotate_left; (have hb1 := (bcell hb').1; clear hb'; go_simp; (try go_bits)); (with_reducible rfl); (try simp only [Act.put, List.setIfInBounds_toArray, List.set_cons_zero, List.set_cons_succ]))
            | (refine seqC_w (fun K hK => ?_); go_simp; (try go_bits); refine hK _ _ ?_; clear hK K))
          refine seqC_nil (hK' _ _ ?_)
          clear hK' K' hQ' Q'
          have hr1 : IRow ((wr.setCell ⟨gt, i + 1, none⟩ (.int .u64 (IntKind.u64.wrap (X + Y / 67108864)))).drew) gt 59 .u64 (cs1 t i) := by
            rw [e1 (), ← IntKind.wrap_u64]; exact (hr.set _ _).drew
          have hJ1 := (hJ.grown (setCell_grown wr gt (i + 1) (.int .u64 (IntKind.u64.wrap (X + Y / 67108864)))) hgt).drew
          have ht1 := ht.cs1 i
          have e2 : Unit → cs2 (cs1 t i) i = (cs1 t i).set i (Y % 67108864) := fun _ => by unfold cs2; rw [g0]
          have c2 := hr1.cell (k := i) (by rw [ht1.len]; omega)
          rw [g0] at c2
          have f2 := hr1.frozen i
          have o1 := and26 Y w0
          clear c0 c1 f1 e1 g0 hr hJ
          go_wp2_with fail
          go_roundw
          case rel => exact ⟨i + 1, by omega, by go_num, hJ1.grown (setCell_grown _ _ _ _) hgt, by rw [htn (), e2 ()]; exact hr1.set _ _⟩
          case measure => simp [intOf]; omega
        · obtain rfl : i = 4 := by omega
          clear hi9 hli
          rw [show ((4 : Nat) : Int) = 4 from rfl]
          have ht := hGA.cin 4
          generalize cin G0 4 = t at hr ht hfg
          have c4 := hr.cell (k := 4) (by rw [ht.len]; omega)
          have w4 := ht.wd 4
          have hYt : Unit → t.getD 4 0 = t.getD 4 0 := fun _ => rfl
          have hct : Unit → ct2 t = t.set 4 (t.getD 4 0 % 67108864) := fun _ => rfl
          obtain ⟨Y, hYY⟩ : ∃ Y, t.getD 4 0 = Y := ⟨_, rfl⟩
          replace hYt : Unit → t.getD 4 0 = Y := fun _ => hYY
          rw [hYY] at c4 w4
          replace hfg : Unit → finL H2 = if 0 < Y / 67108864 then ct2 t else H2 := fun _ => by rw [hfg (), hYY]
          replace hct : Unit → ct2 t = t.set 4 (Y % 67108864) := fun _ => by rw [hct (), hYY]
          clear hYY
          have y1 := w4.1
          have y2 := w4.2
          have ht4 := ht.len
          have hHr := hJ.hH
          have o1 := and26 Y w4
          by_cases hY : 0 < Y / 67108864
          · have hJt := hJ.rowH t
            have c4' := hJt.hH.cell (k := 4) (by rw [ht.len]; omega)
            have hY4 : t.getD 4 0 = Y := hYt ()
            rw [hY4] at c4'
            have f4' := hJt.hH.frozen 4
            clear hY4
            go_wp2_with (first
              | (refine wpList_load_vrow rfl rfl rfl hr Try.underlying59 rfl (by rw [List.length_map, ht4]; kernel_rfl) ?_; simp only [Act.put, List.setIfInBounds_toArray, List.set_cons_zero, List.set_cons_succ])
              | (refine wpList_store_row rfl 59 _ _ rfl _ _ rfl rfl 59 _ hHr (by rw [List.size_toArray, List.length_map, ht4]; kernel_rfl) (by simp [ht4, hlH]) ?c1 ?_; (case c1 => simp [Value.oneCell'])))
            refine wp_abs (fun W => PJ w W g R (finL H2)) (by rw [hfg (), if_pos hY, hct ()]; exact hJt.setH 4 _) ?_
            clear hJt c4' f4' hr hJ hHr
            rintro w7 hJ
            have hFA := hHC.finL
            replace hfin : Unit → polyF kz l = finL H2 := fun _ => by unfold polyF; rw [hfin ()]
            generalize finL H2 = F at hJ hFA hfin
            have hpl : Unit → polyL kz l = put8 (put8 (List.replicate 16 0) 0 (sumS (lo3 F) (le8 fun k => kz (16 + k)) 0)) 8 (sumS (hi3 F) (le8 fun k => kz (24 + k)) (sumC (lo3 F) (le8 fun k => kz (16 + k)) 0)) := fun _ => by unfold polyL; rw [hfin ()]
            have c0 := hJ.hH.cell (k := 0) (by rw [hFA.len]; decide)
            have c1 := hJ.hH.cell (k := 1) (by rw [hFA.len]; decide)
            have c2 := hJ.hH.cell (k := 2) (by rw [hFA.len]; decide)
            have v0 := hFA.wd 0
            have v1 := hFA.wd 1
            have v2 := hFA.wd 2
            have hlo : Unit → lo3 F = bits .or .u64 (bits .or .u64 (F.getD 0 0) (IntKind.u64.wrap (F.getD 1 0 * 67108864))) (IntKind.u64.wrap (F.getD 2 0 * 4503599627370496)) := fun _ => rfl
            have hloW := lo3_W hFA
            have hhiW := hi3_W hFA
            have hhi : Unit → hi3 F = bits .or .u64 (bits .or .u64 (F.getD 2 0 / 4096) (IntKind.u64.wrap (F.getD 3 0 * 16384))) (IntKind.u64.wrap (F.getD 4 0 * 1099511627776)) := fun _ => rfl
            have hke : W64 (le8 fun k => kz (16 + k)) := le8_bd fun k => hk _
            have hkf : W64 (le8 fun k => kz (24 + k)) := le8_bd fun k => hk _
            have K16 := Lib.hid (fun (W : World) (hb : Below w.heap.size w W) => word8_calls bk (ok + 16) (ck - 16) (fun k => kz (16 + k)) (fun k => hk _) W (fun k hk' => by rw [Nat.add_assoc]; exact (hK.below hb hbk).cell (16 + k) (by omega)))
            have K24 := Lib.hid (fun (W : World) (hb : Below w.heap.size w W) => word8_calls bk (ok + 24) (ck - 24) (fun k => kz (24 + k)) (fun k => hk _) W (fun k hk' => by rw [Nat.add_assoc]; exact (hK.below hb hbk).cell (24 + k) (by omega)))
            have s16 := slice_lh bk ok 32 ck 16 24 16 24 (by omega) (by omega) (by decide) rfl rfl
            have s24 := slice_lh bk ok 32 ck 24 32 24 32 (by omega) (by omega) (by decide) rfl rfl
            generalize (le8 fun k => kz (16 + k)) = E16 at hke K16 hpl
            generalize (le8 fun k => kz (24 + k)) = E24 at hkf K24 hpl
            generalize F.getD 0 0 = Y0 at c0 v0 hlo
            generalize F.getD 1 0 = Y1 at c1 v1 hlo
            generalize hY2 : F.getD 2 0 = Y2 at c2 v2 hlo hhi
            replace hY2 : Unit → F.getD 2 0 = Y2 := fun _ => hY2
            have r0 := add64_run (bits .or .u64 (bits .or .u64 Y0 (IntKind.u64.wrap (Y1 * 67108864))) (IntKind.u64.wrap (Y2 * 4503599627370496))) E16 0 (by rw [← hlo ()]; exact hloW) hke (by omega)
            have hJd := hJ.drew.pi.hbel
            have hgl : g + 1 < w7.heap.size := hJ.hH.lt
            have hgl2 : g + 1 < w7.drew.heap.size := hJ.hH.lt
            have C0 := Lib.hid (fun (W : World) (hb : Below w7.drew.heap.size w7.drew W) => (hb.cell (p := ⟨g + 1, 0, none⟩) (by exact hgl)).trans c0)
            have C1 := Lib.hid (fun (W : World) (hb : Below w7.drew.heap.size w7.drew W) => (hb.cell (p := ⟨g + 1, 1, none⟩) (by exact hgl)).trans c1)
            have C2 := Lib.hid (fun (W : World) (hb : Below w7.drew.heap.size w7.drew W) => (hb.cell (p := ⟨g + 1, 2, none⟩) (by exact hgl)).trans c2)
            refine wp_region_plan 12 13 [(.p, 0), (.e, 1), (.p, 2), (.e, 3), (.p, 4), (.p, 5), (.p, 6), (.e, 7), (.p, 8), (.p, 9), (.h, 10), (.h, 11), (.b, 12), (.w, 13), (.p, 14), (.p, 15), (.p, 16), (.p, 17), (.p, 18)] mixed (by kernel_rfl) (fun dst _ _ _ _ h => by cases dst <;> exact h) ?_
            intro Q' K' hQ' hK'
            refine with_refl ?_
            intro hB
            simp only [planOps_cons, planOps_nil, getD_zero, getD_succ]
            repeat (first
              | (refine seqC_e (v := ?_) rfl (fun w' hb' => ?_) ?_; rotate_left; (have q0 := C0.out w' hb'; have q1 := C1.out w' hb'; have q2 := C2.out w' hb'; clear hb'; go_simp; (try go_bits)); (with_reducible rfl); (try simp only [Act.put, List.setIfInBounds_toArray, List.set_cons_zero, List.set_cons_succ]))
              | (refine seqC_b (fun K hK => ?_); go_simp; go_at_call 21; ((with_reducible refine ((K16.out _ (below_S hJd hB))).mono ?_); rintro e w1 ⟨rfl, hb1⟩; refine hK _ _ (below_S hB hb1) ?_; replace hB := below_S hB hb1; clear hb1 hK K))
              | (refine seqC_w (fun K hK => ?_); go_simp; go_at_call 21; ((with_reducible refine ((K16.out _ (below_S hJd hB))).mono ?_); rintro e w1 ⟨rfl, hb1⟩; refine hK _ _ ?_; replace hB := below_S hB hb1; clear hb1 hK K))
              | ((first | (with_reducible refine seqC_skip_h rfl ?_) | (with_reducible refine seqC_skip_p rfl ?_) | (with_reducible refine seqC_skip_e rfl ?_) | (with_reducible refine seqC_skip_w rfl ?_) | (with_reducible refine seqC_skip_b hB rfl ?_)); (try simp only [Act.put, List.setIfInBounds_toArray, List.set_cons_zero, List.set_cons_succ]))
              | (refine seqC_h (fun K hK => ?_); go_simp; (try go_bits); refine hK _ ?_; clear hK K)
              | (refine seqC_p (v := ?_) rfl (fun w' => ?_) ?_; rotate_left; go_simp; (try go_bits); (with_reducible rfl); (try simp only [Act.put, List.setIfInBounds_toArray, List.set_cons_zero, List.set_cons_succ]))
              | (refine seqC_e (v := ?_) rfl (fun w' hb' => ?_) ?_; rotate_left; (have hb1 := (bcell hb').1; clear hb'; go_simp; (try go_bits)); (with_reducible rfl); (try simp only [Act.put, List.setIfInBounds_toArray, List.set_cons_zero, List.set_cons_succ]))
              | (refine seqC_w (fun K hK => ?_); go_simp; (try go_bits); refine hK _ _ ?_; clear hK K))
            refine seqC_nil (hK' _ _ ?_)
            clear hK' K' hQ' Q'
            go_wp2_with fail
            rw [← hlo ()]
            generalize lo3 F = LO at hpl hloW ⊢
            have hJ8 := hJ.drew.belowS hB
            clear hB c0 c1 c2 v0 v1 v2 C0 C1 C2 r0 hlo K16 s16 hgl hgl2 hJd hJ
            have c2 := hJ8.hH.cell (k := 2) (by rw [hFA.len]; decide)
            have c3 := hJ8.hH.cell (k := 3) (by rw [hFA.len]; decide)
            have c4 := hJ8.hH.cell (k := 4) (by rw [hFA.len]; decide)
            rw [hY2 ()] at c2
            have v3 := hFA.wd 3
            have v4 := hFA.wd 4
            have v2 : W64 Y2 := hY2 () ▸ hFA.wd 2
            have v20 := v2.1
            have v21 := v2.2
            generalize F.getD 3 0 = Y3 at c3 v3 hhi
            generalize F.getD 4 0 = Y4 at c4 v4 hhi
            have r1 := add64_run (bits .or .u64 (bits .or .u64 (Y2 / 4096) (IntKind.u64.wrap (Y3 * 16384))) (IntKind.u64.wrap (Y4 * 1099511627776))) E24 (sumC LO E16 0) (by rw [← hhi ()]; exact hhiW) hkf (sumC_bd hloW hke)
            obtain ⟨CC0, hCC0⟩ : ∃ C, sumC LO E16 0 = C := ⟨_, rfl⟩
            have hcc : Unit → sumC LO E16 0 = CC0 := fun _ => hCC0
            rw [hCC0] at r1 ⊢
            clear hCC0
            have hJd := hJ8.drew.pi.hbel
            have hgl : g + 1 < w1.heap.size := hJ8.hH.lt
            have C2 := Lib.hid (fun (W : World) (hb : Below w1.drew.heap.size w1.drew W) => (hb.cell (p := ⟨g + 1, 2, none⟩) (by exact hgl)).trans c2)
            have C3 := Lib.hid (fun (W : World) (hb : Below w1.drew.heap.size w1.drew W) => (hb.cell (p := ⟨g + 1, 3, none⟩) (by exact hgl)).trans c3)
            have C4 := Lib.hid (fun (W : World) (hb : Below w1.drew.heap.size w1.drew W) => (hb.cell (p := ⟨g + 1, 4, none⟩) (by exact hgl)).trans c4)
            refine wp_region_plan 13 15 [(.p, 0), (.e, 1), (.p, 2), (.p, 3), (.e, 4), (.p, 5), (.p, 6), (.p, 7), (.e, 8), (.p, 9), (.p, 10), (.h, 11), (.h, 12), (.p, 14), (.b, 13), (.w, 15), (.p, 16), (.p, 17), (.p, 18), (.p, 19), (.p, 20)] mixed (by kernel_rfl) (fun dst _ _ _ _ h => by cases dst <;> exact h) ?_
            intro Q' K' hQ' hK'
            refine with_refl ?_
            intro hB
            simp only [planOps_cons, planOps_nil, getD_zero, getD_succ]
            repeat (first
              | (refine seqC_e (v := ?_) rfl (fun w' hb' => ?_) ?_; rotate_left; (have q0 := C2.out w' hb'; have q1 := C3.out w' hb'; have q2 := C4.out w' hb'; clear hb'; go_simp; (try go_bits)); (with_reducible rfl); (try simp only [Act.put, List.setIfInBounds_toArray, List.set_cons_zero, List.set_cons_succ]))
              | (refine seqC_b (fun K hK => ?_); go_simp; go_at_call 21; ((with_reducible refine ((K24.out _ (below_S hJd hB))).mono ?_); rintro e w1 ⟨rfl, hb1⟩; refine hK _ _ (below_S hB hb1) ?_; replace hB := below_S hB hb1; clear hb1 hK K))
              | (refine seqC_w (fun K hK => ?_); go_simp; go_at_call 21; ((with_reducible refine ((K24.out _ (below_S hJd hB))).mono ?_); rintro e w1 ⟨rfl, hb1⟩; refine hK _ _ ?_; replace hB := below_S hB hb1; clear hb1 hK K))
              | ((first | (with_reducible refine seqC_skip_h rfl ?_) | (with_reducible refine seqC_skip_p rfl ?_) | (with_reducible refine seqC_skip_e rfl ?_) | (with_reducible refine seqC_skip_w rfl ?_) | (with_reducible refine seqC_skip_b hB rfl ?_)); (try simp only [Act.put, List.setIfInBounds_toArray, List.set_cons_zero, List.set_cons_succ]))
              | (refine seqC_h (fun K hK => ?_); go_simp; (try go_bits); refine hK _ ?_; clear hK K)
              | (refine seqC_p (v := ?_) rfl (fun w' => ?_) ?_; rotate_left; go_simp; (try go_bits); (with_reducible rfl); (try simp only [Act.put, List.setIfInBounds_toArray, List.set_cons_zero, List.set_cons_succ]))
              | (refine seqC_e (v := ?_) rfl (fun w' hb' => ?_) ?_; rotate_left; (have hb1 := (bcell hb').1; clear hb'; go_simp; (try go_bits)); (with_reducible rfl); (try simp only [Act.put, List.setIfInBounds_toArray, List.set_cons_zero, List.set_cons_succ]))
              | (refine seqC_w (fun K hK => ?_); go_simp; (try go_bits); refine hK _ _ ?_; clear hK K))
            refine seqC_nil (hK' _ _ ?_)
            clear hK' K' hQ' Q'
            have q16a := slice16a (w.heap.size + 1)
            have q16b := slice16b (w.heap.size + 1)
            rw [← hhi ()]
            generalize hi3 F = HI at hpl ⊢
            have hJ9 := hJ8.drew.belowS hB
            clear hB C2 C3 C4 c2 c3 c4 r1 hhi hgl hJd hJ8 K24 s24 v2 v3 v4 v20 v21
            have hpl2 : Unit → polyL kz l = put8 (put8 (List.replicate 16 0) 0 (sumS LO E16 0)) 8 (sumS HI E24 CC0) := fun _ => by rw [hpl (), hcc ()]
            clear hpl hcc
            go_wp2_with fail
            refine (put8_calls (w.heap.size + 1) 0 16 39 (List.replicate 16 0) (sumS LO E16 0) (sumS_nn _ _ _) (by simp) _ hJ9.pi.hv).mono ?_
            rintro e w8 ⟨rfl, hv1, hg1⟩
            have ho1 := hJ9.pi.ho.grown hg1 (by simp)
            have hb1 := below_grown hJ9.pi.hbel hg1 (by omega)
            clear hg1 hJ9
            go_wp2_with fail
            refine (put8_calls (w.heap.size + 1) 8 8 39 _ (sumS HI E24 CC0) (sumS_nn _ _ _) (by rw [put8_len]; simp) _ hv1).mono ?_
            rintro e w9 ⟨rfl, hv2, hg2⟩
            have ho2 := ho1.grown hg2 (by simp)
            have hb2 := below_grown hb1 hg2 (by omega)
            have hPl : Unit → (put8 (put8 (List.replicate 16 0) 0 (sumS LO E16 0)) 8 (sumS HI E24 CC0)).length = 16 := fun _ => by rw [put8_len, put8_len]; simp
            clear hv1 ho1 hb1 hg2
            generalize put8 (put8 (List.replicate 16 0) 0 (sumS LO E16 0)) 8 (sumS HI E24 CC0) = PL at hv2 hPl hpl2
            have hpn := hPl ()
            go_wp2_with (first
              | (refine wpList_load_vrow rfl rfl rfl hv2 Try.underlying39 rfl (by rw [List.length_map, hpn]; kernel_rfl) ?_; simp only [Act.put, List.setIfInBounds_toArray, List.set_cons_zero, List.set_cons_succ])
              | (refine wpList_store_row rfl 39 _ _ rfl _ _ rfl rfl 39 _ ho2 (by rw [List.size_toArray, List.length_map, hpn]; kernel_rfl) (by simp [hpn]) ?c1 ?_; (case c1 => simp [Value.oneCell'])))
            refine bodyPost_ret (results_vrow_tmp rfl _ _ _ 39 _ _ rfl (VRow.setRow ho2 _) Try.underlying39 rfl (by rw [List.length_map, hpn]; kernel_rfl)) rfl ⟨by rw [hpl2 ()]; rfl, bel_setRow hb2 (Nat.le_refl _) _⟩

          · go_wp2_with fail
            refine wp_abs (fun W => PJ w W g R (finL H2)) (by rw [hfg (), if_neg (by omega)]; exact hJ) ?_
            clear hr hJ hHr
            rintro w7 hJ
            have hFA := hHC.finL
            replace hfin : Unit → polyF kz l = finL H2 := fun _ => by unfold polyF; rw [hfin ()]
            generalize finL H2 = F at hJ hFA hfin
            have hpl : Unit → polyL kz l = put8 (put8 (List.replicate 16 0) 0 (sumS (lo3 F) (le8 fun k => kz (16 + k)) 0)) 8 (sumS (hi3 F) (le8 fun k => kz (24 + k)) (sumC (lo3 F) (le8 fun k => kz (16 + k)) 0)) := fun _ => by unfold polyL; rw [hfin ()]
            have c0 := hJ.hH.cell (k := 0) (by rw [hFA.len]; decide)
            have c1 := hJ.hH.cell (k := 1) (by rw [hFA.len]; decide)
            have c2 := hJ.hH.cell (k := 2) (by rw [hFA.len]; decide)
            have v0 := hFA.wd 0
            have v1 := hFA.wd 1
            have v2 := hFA.wd 2
            have hlo : Unit → lo3 F = bits .or .u64 (bits .or .u64 (F.getD 0 0) (IntKind.u64.wrap (F.getD 1 0 * 67108864))) (IntKind.u64.wrap (F.getD 2 0 * 4503599627370496)) := fun _ => rfl
            have hloW := lo3_W hFA
            have hhiW := hi3_W hFA
            have hhi : Unit → hi3 F = bits .or .u64 (bits .or .u64 (F.getD 2 0 / 4096) (IntKind.u64.wrap (F.getD 3 0 * 16384))) (IntKind.u64.wrap (F.getD 4 0 * 1099511627776)) := fun _ => rfl
            have hke : W64 (le8 fun k => kz (16 + k)) := le8_bd fun k => hk _
            have hkf : W64 (le8 fun k => kz (24 + k)) := le8_bd fun k => hk _
            have K16 := Lib.hid (fun (W : World) (hb : Below w.heap.size w W) => word8_calls bk (ok + 16) (ck - 16) (fun k => kz (16 + k)) (fun k => hk _) W (fun k hk' => by rw [Nat.add_assoc]; exact (hK.below hb hbk).cell (16 + k) (by omega)))
            have K24 := Lib.hid (fun (W : World) (hb : Below w.heap.size w W) => word8_calls bk (ok + 24) (ck - 24) (fun k => kz (24 + k)) (fun k => hk _) W (fun k hk' => by rw [Nat.add_assoc]; exact (hK.below hb hbk).cell (24 + k) (by omega)))
            have s16 := slice_lh bk ok 32 ck 16 24 16 24 (by omega) (by omega) (by decide) rfl rfl
            have s24 := slice_lh bk ok 32 ck 24 32 24 32 (by omega) (by omega) (by decide) rfl rfl
            generalize (le8 fun k => kz (16 + k)) = E16 at hke K16 hpl
            generalize (le8 fun k => kz (24 + k)) = E24 at hkf K24 hpl
            generalize F.getD 0 0 = Y0 at c0 v0 hlo
            generalize F.getD 1 0 = Y1 at c1 v1 hlo
            generalize hY2 : F.getD 2 0 = Y2 at c2 v2 hlo hhi
            replace hY2 : Unit → F.getD 2 0 = Y2 := fun _ => hY2
            have r0 := add64_run (bits .or .u64 (bits .or .u64 Y0 (IntKind.u64.wrap (Y1 * 67108864))) (IntKind.u64.wrap (Y2 * 4503599627370496))) E16 0 (by rw [← hlo ()]; exact hloW) hke (by omega)
            have hJd := hJ.drew.pi.hbel
            have hgl : g + 1 < w7.heap.size := hJ.hH.lt
            have hgl2 : g + 1 < w7.drew.heap.size := hJ.hH.lt
            have C0 := Lib.hid (fun (W : World) (hb : Below w7.drew.heap.size w7.drew W) => (hb.cell (p := ⟨g + 1, 0, none⟩) (by exact hgl)).trans c0)
            have C1 := Lib.hid (fun (W : World) (hb : Below w7.drew.heap.size w7.drew W) => (hb.cell (p := ⟨g + 1, 1, none⟩) (by exact hgl)).trans c1)
            have C2 := Lib.hid (fun (W : World) (hb : Below w7.drew.heap.size w7.drew W) => (hb.cell (p := ⟨g + 1, 2, none⟩) (by exact hgl)).trans c2)
            refine wp_region_plan 12 13 [(.p, 0), (.e, 1), (.p, 2), (.e, 3), (.p, 4), (.p, 5), (.p, 6), (.e, 7), (.p, 8), (.p, 9), (.h, 10), (.h, 11), (.b, 12), (.w, 13), (.p, 14), (.p, 15), (.p, 16), (.p, 17), (.p, 18)] mixed (by kernel_rfl) (fun dst _ _ _ _ h => by cases dst <;> exact h) ?_
            intro Q' K' hQ' hK'
            refine with_refl ?_
            intro hB
            simp only [planOps_cons, planOps_nil, getD_zero, getD_succ]
            repeat (first
              | (refine seqC_e (v := ?_) rfl (fun w' hb' => ?_) ?_; rotate_left; (have q0 := C0.out w' hb'; have q1 := C1.out w' hb'; have q2 := C2.out w' hb'; clear hb'; go_simp; (try go_bits)); (with_reducible rfl); (try simp only [Act.put, List.setIfInBounds_toArray, List.set_cons_zero, List.set_cons_succ]))
              | (refine seqC_b (fun K hK => ?_); go_simp; go_at_call 21; ((with_reducible refine ((K16.out _ (below_S hJd hB))).mono ?_); rintro e w1 ⟨rfl, hb1⟩; refine hK _ _ (below_S hB hb1) ?_; replace hB := below_S hB hb1; clear hb1 hK K))
              | (refine seqC_w (fun K hK => ?_); go_simp; go_at_call 21; ((with_reducible refine ((K16.out _ (below_S hJd hB))).mono ?_); rintro e w1 ⟨rfl, hb1⟩; refine hK _ _ ?_; replace hB := below_S hB hb1; clear hb1 hK K))
              | ((first | (with_reducible refine seqC_skip_h rfl ?_) | (with_reducible refine seqC_skip_p rfl ?_) | (with_reducible refine seqC_skip_e rfl ?_) | (with_reducible refine seqC_skip_w rfl ?_) | (with_reducible refine seqC_skip_b hB rfl ?_)); (try simp only [Act.put, List.setIfInBounds_toArray, List.set_cons_zero, List.set_cons_succ]))
              | (refine seqC_h (fun K hK => ?_); go_simp; (try go_bits); refine hK _ ?_; clear hK K)
              | (refine seqC_p (v := ?_) rfl (fun w' => ?_) ?_; rotate_left; go_simp; (try go_bits); (with_reducible rfl); (try simp only [Act.put, List.setIfInBounds_toArray, List.set_cons_zero, List.set_cons_succ]))
              | (refine seqC_e (v := ?_) rfl (fun w' hb' => ?_) ?_; rotate_left; (have hb1 := (bcell hb').1; clear hb'; go_simp; (try go_bits)); (with_reducible rfl); (try simp only [Act.put, List.setIfInBounds_toArray, List.set_cons_zero, List.set_cons_succ]))
              | (refine seqC_w (fun K hK => ?_); go_simp; (try go_bits); refine hK _ _ ?_; clear hK K))
            refine seqC_nil (hK' _ _ ?_)
            clear hK' K' hQ' Q'
            go_wp2_with fail
            rw [← hlo ()]
            generalize lo3 F = LO at hpl hloW ⊢
            have hJ8 := hJ.drew.belowS hB
            clear hB c0 c1 c2 v0 v1 v2 C0 C1 C2 r0 hlo K16 s16 hgl hgl2 hJd hJ
            have c2 := hJ8.hH.cell (k := 2) (by rw [hFA.len]; decide)
            have c3 := hJ8.hH.cell (k := 3) (by rw [hFA.len]; decide)
            have c4 := hJ8.hH.cell (k := 4) (by rw [hFA.len]; decide)
            rw [hY2 ()] at c2
            have v3 := hFA.wd 3
            have v4 := hFA.wd 4
            have v2 : W64 Y2 := hY2 () ▸ hFA.wd 2
            have v20 := v2.1
            have v21 := v2.2
            generalize F.getD 3 0 = Y3 at c3 v3 hhi
            generalize F.getD 4 0 = Y4 at c4 v4 hhi
            have r1 := add64_run (bits .or .u64 (bits .or .u64 (Y2 / 4096) (IntKind.u64.wrap (Y3 * 16384))) (IntKind.u64.wrap (Y4 * 1099511627776))) E24 (sumC LO E16 0) (by rw [← hhi ()]; exact hhiW) hkf (sumC_bd hloW hke)
            obtain ⟨CC0, hCC0⟩ : ∃ C, sumC LO E16 0 = C := ⟨_, rfl⟩
            have hcc : Unit → sumC LO E16 0 = CC0 := fun _ => hCC0
            rw [hCC0] at r1 ⊢
            clear hCC0
            have hJd := hJ8.drew.pi.hbel
            have hgl : g + 1 < w1.heap.size := hJ8.hH.lt
            have C2 := Lib.hid (fun (W : World) (hb : Below w1.drew.heap.size w1.drew W) => (hb.cell (p := ⟨g + 1, 2, none⟩) (by exact hgl)).trans c2)
            have C3 := Lib.hid (fun (W : World) (hb : Below w1.drew.heap.size w1.drew W) => (hb.cell (p := ⟨g + 1, 3, none⟩) (by exact hgl)).trans c3)
            have C4 := Lib.hid (fun (W : World) (hb : Below w1.drew.heap.size w1.drew W) => (hb.cell (p := ⟨g + 1, 4, none⟩) (by exact hgl)).trans c4)
            refine wp_region_plan 13 15 [(.p, 0), (.e, 1), (.p, 2), (.p, 3), (.e, 4), (.p, 5), (.p, 6), (.p, 7), (.e, 8), (.p, 9), (.p, 10), (.h, 11), (.h, 12), (.p, 14), (.b, 13), (.w, 15), (.p, 16), (.p, 17), (.p, 18), (.p, 19), (.p, 20)] mixed (by kernel_rfl) (fun dst _ _ _ _ h => by cases dst <;> exact h) ?_
            intro Q' K' hQ' hK'
            refine with_refl ?_
            intro hB
            simp only [planOps_cons, planOps_nil, getD_zero, getD_succ]
            repeat (first
              | (refine seqC_e (v := ?_) rfl (fun w' hb' => ?_) ?_; rotate_left; (have q0 := C2.out w' hb'; have q1 := C3.out w' hb'; have q2 := C4.out w' hb'; clear hb'; go_simp; (try go_bits)); (with_reducible rfl); (try simp only [Act.put, List.setIfInBounds_toArray, List.set_cons_zero, List.set_cons_succ]))
              | (refine seqC_b (fun K hK => ?_); go_simp; go_at_call 21; ((with_reducible refine ((K24.out _ (below_S hJd hB))).mono ?_); rintro e w1 ⟨rfl, hb1⟩; refine hK _ _ (below_S hB hb1) ?_; replace hB := below_S hB hb1; clear hb1 hK K))
              | (refine seqC_w (fun K hK => ?_); go_simp; go_at_call 21; ((with_reducible refine ((K24.out _ (below_S hJd hB))).mono ?_); rintro e w1 ⟨rfl, hb1⟩; refine hK _ _ ?_; replace hB := below_S hB hb1; clear hb1 hK K))
              | ((first | (with_reducible refine seqC_skip_h rfl ?_) | (with_reducible refine seqC_skip_p rfl ?_) | (with_reducible refine seqC_skip_e rfl ?_) | (with_reducible refine seqC_skip_w rfl ?_) | (with_reducible refine seqC_skip_b hB rfl ?_)); (try simp only [Act.put, List.setIfInBounds_toArray, List.set_cons_zero, List.set_cons_succ]))
              | (refine seqC_h (fun K hK => ?_); go_simp; (try go_bits); refine hK _ ?_; clear hK K)
              | (refine seqC_p (v := ?_) rfl (fun w' => ?_) ?_; rotate_left; go_simp; (try go_bits); (with_reducible rfl); (try simp only [Act.put, List.setIfInBounds_toArray, List.set_cons_zero, List.set_cons_succ]))
              | (refine seqC_e (v := ?_) rfl (fun w' hb' => ?_) ?_; rotate_left; (have hb1 := (bcell hb').1; clear hb'; go_simp; (try go_bits)); (with_reducible rfl); (try simp only [Act.put, List.setIfInBounds_toArray, List.set_cons_zero, List.set_cons_succ]))
              | (refine seqC_w (fun K hK => ?_); go_simp; (try go_bits); refine hK _ _ ?_; clear hK K))
            refine seqC_nil (hK' _ _ ?_)
            clear hK' K' hQ' Q'
            have q16a := slice16a (w.heap.size + 1)
            have q16b := slice16b (w.heap.size + 1)
            rw [← hhi ()]
            generalize hi3 F = HI at hpl ⊢
            have hJ9 := hJ8.drew.belowS hB
            clear hB C2 C3 C4 c2 c3 c4 r1 hhi hgl hJd hJ8 K24 s24 v2 v3 v4 v20 v21
            have hpl2 : Unit → polyL kz l = put8 (put8 (List.replicate 16 0) 0 (sumS LO E16 0)) 8 (sumS HI E24 CC0) := fun _ => by rw [hpl (), hcc ()]
            clear hpl hcc
            go_wp2_with fail
            refine (put8_calls (w.heap.size + 1) 0 16 39 (List.replicate 16 0) (sumS LO E16 0) (sumS_nn _ _ _) (by simp) _ hJ9.pi.hv).mono ?_
            rintro e w8 ⟨rfl, hv1, hg1⟩
            have ho1 := hJ9.pi.ho.grown hg1 (by simp)
            have hb1 := below_grown hJ9.pi.hbel hg1 (by omega)
            clear hg1 hJ9
            go_wp2_with fail
            refine (put8_calls (w.heap.size + 1) 8 8 39 _ (sumS HI E24 CC0) (sumS_nn _ _ _) (by rw [put8_len]; simp) _ hv1).mono ?_
            rintro e w9 ⟨rfl, hv2, hg2⟩
            have ho2 := ho1.grown hg2 (by simp)
            have hb2 := below_grown hb1 hg2 (by omega)
            have hPl : Unit → (put8 (put8 (List.replicate 16 0) 0 (sumS LO E16 0)) 8 (sumS HI E24 CC0)).length = 16 := fun _ => by rw [put8_len, put8_len]; simp
            clear hv1 ho1 hb1 hg2
            generalize put8 (put8 (List.replicate 16 0) 0 (sumS LO E16 0)) 8 (sumS HI E24 CC0) = PL at hv2 hPl hpl2
            have hpn := hPl ()
            go_wp2_with (first
              | (refine wpList_load_vrow rfl rfl rfl hv2 Try.underlying39 rfl (by rw [List.length_map, hpn]; kernel_rfl) ?_; simp only [Act.put, List.setIfInBounds_toArray, List.set_cons_zero, List.set_cons_succ])
              | (refine wpList_store_row rfl 39 _ _ rfl _ _ rfl rfl 39 _ ho2 (by rw [List.size_toArray, List.length_map, hpn]; kernel_rfl) (by simp [hpn]) ?c1 ?_; (case c1 => simp [Value.oneCell'])))
            refine bodyPost_ret (results_vrow_tmp rfl _ _ _ 39 _ _ rfl (VRow.setRow ho2 _) Try.underlying39 rfl (by rw [List.length_map, hpn]; kernel_rfl)) rfl ⟨by rw [hpl2 ()]; rfl, bel_setRow hb2 (Nat.le_refl _) _⟩

end Go.Proofs.Ytddiamocnkffjaa
