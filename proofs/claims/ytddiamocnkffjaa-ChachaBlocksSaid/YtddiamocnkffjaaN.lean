import Derived.Test.YtddiamocnkffjaaM
import Derived.Test.YtddiamocnkffjaaK7
namespace Go.Proofs.Ytddiamocnkffjaa
open Go.RowKit Go.Proofs Go.Proofs.MyK
set_option linter.unusedSimpArgs false
set_option linter.unusedVariables false
/-- How many zeros fill up to 16. -/
def pz (n : Nat) : Nat := (16 - n % 16) % 16
/-- The two lengths. -/
def lens (a b : Int) : List Int := put8 (put8 (List.replicate 16 0) 0 a) 8 b
def tagM (l1 l2 : List Int) : List Int := ((((l1 ++ List.replicate (pz l1.length) 0) ++ l2) ++ List.replicate (pz l2.length) 0)) ++ lens (l1.length : Int) (l2.length : Int)
def tagL (kz nz : Nat → Int) (l1 l2 : List Int) : List Int := polyL (fun k => (blockL kz 0 nz).getD k 0) (tagM l1 l2)
theorem put8_bd {s : List Int} (h : ∀ k, 0 ≤ s.getD k 0 ∧ s.getD k 0 < 256) (off : Nat) (x : Int) : ∀ k, 0 ≤ (put8 s off x).getD k 0 ∧ (put8 s off x).getD k 0 < 256 := by
  intro k
  unfold put8
  iterate 8
    rw [getD_set]; split
    · omega
  exact h k
theorem mem_of_getD {l : List Int} (h : ∀ k, 0 ≤ l.getD k 0 ∧ l.getD k 0 < 256) : ∀ x ∈ l, 0 ≤ x ∧ x < 256 := fun x hx => by
  obtain ⟨i, hi, rfl⟩ := List.getElem_of_mem hx
  have := h i
  rwa [List.getD_eq_getElem?_getD, List.getElem?_eq_getElem hi] at this
theorem rep0_bd (n k : Nat) : 0 ≤ (List.replicate n (0 : Int)).getD k 0 ∧ (List.replicate n (0 : Int)).getD k 0 < 256 :=
  getD_bd' (fun x hx => by have := List.eq_of_mem_replicate hx; omega) k
theorem lens_bd (a b : Int) : ∀ x ∈ lens a b, 0 ≤ x ∧ x < 256 := mem_of_getD (put8_bd (put8_bd (rep0_bd 16) 0 a) 8 b)
theorem lens_len (a b : Int) : (lens a b).length = 16 := by unfold lens; rw [put8_len, put8_len]; simp
theorem poly_bd (kz : Nat → Int) (l : List Int) : ∀ x ∈ polyL kz l, 0 ≤ x ∧ x < 256 := mem_of_getD (put8_bd (put8_bd (rep0_bd 16) 0 _) 8 _)
theorem poly_len (kz : Nat → Int) (l : List Int) : (polyL kz l).length = 16 := by unfold polyL; rw [put8_len, put8_len]; simp
theorem tagM_bd {l1 l2 : List Int} (h1 : ∀ x ∈ l1, 0 ≤ x ∧ x < 256) (h2 : ∀ x ∈ l2, 0 ≤ x ∧ x < 256) : ∀ x ∈ tagM l1 l2, 0 ≤ x ∧ x < 256 := by
  intro x hx
  unfold tagM at hx
  simp only [List.mem_append] at hx
  rcases hx with (((h | h) | h) | h) | h
  · exact h1 x h
  · have := List.eq_of_mem_replicate h; omega
  · exact h2 x h
  · have := List.eq_of_mem_replicate h; omega
  · exact lens_bd _ _ x h
theorem tagM_len (l1 l2 : List Int) : (tagM l1 l2).length = l1.length + pz l1.length + l2.length + pz l2.length + 16 := by
  unfold tagM; rw [List.length_append, lens_len]; simp; omega
theorem slice64h (b : Nat) (W : World) : (Instr.sliceAt 27 (.pointer (some ⟨b, 0, none⟩)) none (some (.int .i64 32)) none).run Try.prog W = .ok (.slice (some ⟨b, 0, none⟩) 32 64) W := by
  have ht : Try.prog.underlying 27 = some (.array (Try.prog.arrayLen 27) (Try.prog.elem 27)) := by kernel_rfl
  have hl : Try.prog.arrayLen 27 = 64 := by kernel_rfl
  have hs : (sizeOf (Try.prog.elem 27)).run Try.prog W = .ok 1 W := by kernel_rfl
  rw [run_sliceAt_array_h W 27 _ ht .i64 _ (by omega) (by rw [hl]; omega), hs, hl]
  simp [slicedAt, Addr.add]
theorem slice16c (b : Nat) (W : World) : (Instr.sliceAt 39 (.pointer (some ⟨b, 0, none⟩)) none none none).run Try.prog W = .ok (.slice (some ⟨b, 0, none⟩) 16 16) W := by
  have ht : Try.prog.underlying 39 = some (.array (Try.prog.arrayLen 39) (Try.prog.elem 39)) := by kernel_rfl
  have hl : Try.prog.arrayLen 39 = 16 := by kernel_rfl
  have hs : (sizeOf (Try.prog.elem 39)).run Try.prog W = .ok 1 W := by kernel_rfl
  rw [run_sliceAt_array_all W 39 _ ht, hs, hl]
  simp [slicedAt, Addr.add]
set_option maxRecDepth 4000 in
set_option maxHeartbeats 4000000 in
theorem tag_calls (bk ok ck bn on cn : Nat) (kz nz : Nat → Int) (w : World) (hk : ∀ k, 0 ≤ kz k ∧ kz k < 256) (hn : ∀ k, 0 ≤ nz k ∧ nz k < 256)
    (ck32 : 32 ≤ ck) (cn12 : 12 ≤ cn) (hK : At w bk ok 32 kz) (hN : At w bn on 12 nz) (v1 v2 : Value) (l1 l2 : List Int) (hB1 : Bs w v1 l1) (hB2 : Bs w v2 l2) (hm1 : l1.length ≤ 1000000) (hm2 : l2.length ≤ 1000000) :
    Calls Try.prog 26 #[.slice (some ⟨bk, ok, none⟩) 32 ck, .slice (some ⟨bn, on, none⟩) 12 cn, v1, v2] w fun e w' => (∃ g, e = .returned (.slice (some ⟨g, 0, none⟩) 16 16) ∧ w.heap.size ≤ g ∧ IRow w' g 39 .u8 (tagL kz nz l1 l2)) ∧ Below w.heap.size w w' := by
  obtain ⟨i0, hi, hz0, hz1, hz2⟩ := info_parts infoByte
  have hl1 := hB1.1
  have hl2 := hB2.1
  obtain ⟨a1, c1, rfl, _, _⟩ := hB1.form
  obtain ⟨a2, c2, rfl, _, _⟩ := hB2.form
  have hpz : ∀ n : Nat, ((16 : Int) - (n : Int) % 16) % 16 = ((pz n : Nat) : Int) := fun n => by unfold pz; omega
  have hpz16 : ∀ n : Nat, pz n < 16 := fun n => by unfold pz; omega
  have BC := block_at bk ok ck bn on cn kz nz 0 w hk hn (by unfold W32; omega) ck32 cn12 hK hN
  clear hK hN
  go_enter Try.func26, Try.ntmps26
  go_wp2_with fail
  refine BC.mono ?_
  clear BC
  rintro e w1 ⟨rfl, hb1⟩
  replace hB1 := hB1.belowS hb1
  replace hB2 := hB2.belowS hb1
  have hbl : Unit → (blockL kz 0 nz).length = 64 := fun _ => block_len _ _ _
  have hnew : IRow (w1.alloc (.cells ((List.replicate 64 0).map (Value.int .u8)).toArray 27)) w1.heap.size 27 .u8 (List.replicate 64 0) := IRow.new rfl
  go_wp2_with (refine wpList_store_row rfl 27 _ _ rfl _ _ rfl rfl 27 _ hnew (by rw [List.size_toArray, List.length_map, hbl ()]; kernel_rfl) (by simp [hbl ()]) ?c1 ?_; (case c1 => simp [Value.oneCell']))
  have hg2 := hb1.size
  have hrow : IRow ((w1.alloc (.cells ((List.replicate 64 0).map (Value.int .u8)).toArray 27)).setRow w1.heap.size ((blockL kz 0 nz).map (Value.int .u8)).toArray) w1.heap.size 27 .u8 (blockL kz 0 nz) := VRow.setRow hnew _
  have hbs : Below w1.heap.size w1 ((w1.alloc (.cells ((List.replicate 64 0).map (Value.int .u8)).toArray 27)).setRow w1.heap.size ((blockL kz 0 nz).map (Value.int .u8)).toArray) := bel_setRow (bel_alloc (Below.refl _ _) _) (Nat.le_refl _) _
  refine wp_loop_rounds 3 ?_
  refine rounds_abs (fun W => Below w.heap.size w W ∧ IRow W w1.heap.size 27 .u8 (blockL kz 0 nz) ∧ VRow W (w1.heap.size + 1) 22 [.slice a1 l1.length c1, .slice a2 l2.length c2] ∧ Bs W (.slice a1 l1.length c1) l1 ∧ Bs W (.slice a2 l2.length c2) l2)
    ⟨bel_alloc (below_S hb1 hbs) _, hrow.alloc _, VRow.new' (by simp) rfl, (hB1.belowS hbs).alloc _, (hB2.belowS hbs).alloc _⟩ ?_
  clear hrow hbs hnew hB1 hB2 hb1
  obtain ⟨g9, hg9⟩ : ∃ g9, g9 = w1.heap.size := ⟨_, rfl⟩
  rw [← hg9] at hg2 ⊢
  clear hg9
  rintro W0 ⟨hbel, hrow, hlit, hB1, hB2⟩
  have cc0 : _ = some (Value.slice a1 l1.length c1) := hlit.cell (k := 0) rfl
  have hsz := hbel.size
  rw [rounds_succ]
  go_wp2_with (at_builtin; refine wpList_append_bs _ rfl _ _ 22 rfl W0.heap.size 5 i0 Try.underlying22 hi hz0 hz1 hz2 _ 0 [] rfl (World.ownsRow_nil _ _ _ _) _ rfl l1 hB1 (by omega) (Nat.le_refl _) ?_)
  intro v1 W1 hown1 hgr1 _
  try rw [Nat.zero_add] at hown1
  try rw [List.nil_append] at hown1
  have hb1 : Below W0.heap.size W0 W1 := (Below.refl _ _).grown hgr1 (Nat.le_refl _) (fun k hk => by cases hk)
  obtain ⟨a3, c3, rfl, _, _⟩ := (Bs.owns hown1 hl1).form
  have hs1 := hb1.size
  have p1 := hpz16 l1.length
  have p2 := hpz16 l2.length
  go_wp2_with (at_builtin; refine wpList_append_zs _ rfl _ _ 22 3 rfl W0.heap.size 5 i0 .i64 Try.underlying22 Try.underlying3 hi hz0 hz1 hz2 _ l1.length l1 rfl hown1 .i64 (pz l1.length) (congrArg (Value.int IntKind.i64) (hpz _)) (by omega) hs1 ?_)
  intro v2 W2 hown2 hgr2 _
  replace hown2 : W2.ownsRow W0.heap.size 5 1 v2 (l1.length + pz l1.length) ((l1 ++ List.replicate (pz l1.length) 0).map (Value.int .u8)) := by simpa using hown2
  have hb2 : Below W0.heap.size W0 W2 := hb1.grown hgr2 hs1 (fun k hk => (hown1.lt k hk).1)
  clear hown1 hgr1 hgr2 hb1 cc0 hs1
  have hs2 := hb2.size
  have hlM1 : (l1 ++ List.replicate (pz l1.length) 0).length = l1.length + pz l1.length := by simp
  have hmM1 : ∀ x ∈ l1 ++ List.replicate (pz l1.length) 0, 0 ≤ x ∧ x < 256 := fun x hx => by
    rcases List.mem_append.1 hx with h | h
    · exact hl1 x h
    · have := List.eq_of_mem_replicate h; omega
  rw [← hlM1] at hown2
  obtain ⟨a4, c4, rfl, _, _⟩ := (Bs.owns hown2 hmM1).form
  rw [hlM1] at hown2 ⊢
  go_wp2_with fail
  have cc1 : _ = some (Value.slice a2 l2.length c2) := (hlit.belowS hb2).cell (k := 1) rfl
  rw [rounds_succ]
  go_wp2_with (at_builtin; refine wpList_append_bs _ rfl _ _ 22 rfl W0.heap.size 5 i0 Try.underlying22 hi hz0 hz1 hz2 _ (l1.length + pz l1.length) (l1 ++ List.replicate (pz l1.length) 0) rfl hown2 _ rfl l2 (hB2.belowS hb2) (by omega) hs2 ?_)
  intro v3 W3 hown3 hgr3 _
  replace hown3 : W3.ownsRow W0.heap.size 5 1 v3 (l1.length + pz l1.length + l2.length) (((l1 ++ List.replicate (pz l1.length) 0) ++ l2).map (Value.int .u8)) := by simpa using hown3
  have hb3 : Below W0.heap.size W0 W3 := hb2.grown hgr3 hs2 (fun k hk => (hown2.lt k hk).1)
  clear hown2 hgr3 hb2 cc1 hs2
  have hs3 := hb3.size
  have hlM2 : ((l1 ++ List.replicate (pz l1.length) 0) ++ l2).length = l1.length + pz l1.length + l2.length := by simp; omega
  have hmM2 : ∀ x ∈ (l1 ++ List.replicate (pz l1.length) 0) ++ l2, 0 ≤ x ∧ x < 256 := fun x hx => by
    rcases List.mem_append.1 hx with h | h
    · exact hmM1 x h
    · exact hl2 x h
  rw [← hlM2] at hown3
  obtain ⟨a5, c5, rfl, _, _⟩ := (Bs.owns hown3 hmM2).form
  rw [hlM2] at hown3 ⊢
  go_wp2_with (at_builtin; refine wpList_append_zs _ rfl _ _ 22 3 rfl W0.heap.size 5 i0 .i64 Try.underlying22 Try.underlying3 hi hz0 hz1 hz2 _ (l1.length + pz l1.length + l2.length) ((l1 ++ List.replicate (pz l1.length) 0) ++ l2) rfl hown3 .i64 (pz l2.length) (congrArg (Value.int IntKind.i64) (hpz _)) (by omega) hs3 ?_)
  intro v4 W4 hown4 hgr4 _
  replace hown4 : W4.ownsRow W0.heap.size 5 1 v4 (l1.length + pz l1.length + l2.length + pz l2.length) ((((l1 ++ List.replicate (pz l1.length) 0) ++ l2) ++ List.replicate (pz l2.length) 0).map (Value.int .u8)) := by simpa using hown4
  have hb4 : Below W0.heap.size W0 W4 := hb3.grown hgr4 hs3 (fun k hk => (hown3.lt k hk).1)
  clear hown3 hgr4 hb3 hs3
  have hs4 := hb4.size
  have hlM3 : (((l1 ++ List.replicate (pz l1.length) 0) ++ l2) ++ List.replicate (pz l2.length) 0).length = l1.length + pz l1.length + l2.length + pz l2.length := by simp; omega
  have hmM3 : ∀ x ∈ ((l1 ++ List.replicate (pz l1.length) 0) ++ l2) ++ List.replicate (pz l2.length) 0, 0 ≤ x ∧ x < 256 := fun x hx => by
    rcases List.mem_append.1 hx with h | h
    · exact hmM2 x h
    · have := List.eq_of_mem_replicate h; omega
  rw [← hlM3] at hown4
  obtain ⟨a6, c6, rfl, _, _⟩ := (Bs.owns hown4 hmM3).form
  rw [hlM3] at hown4 ⊢
  go_wp2_with fail
  have q1 := slice16a W4.heap.size
  have q2 := slice16b W4.heap.size
  have q3 := slice16c W4.heap.size
  rw [rounds_succ]
  go_wp2_with fail
  have hn0 : IRow (W4.alloc (.cells ((List.replicate 16 0).map (Value.int .u8)).toArray 39)) W4.heap.size 39 .u8 (List.replicate 16 0) := IRow.new rfl
  have ho5 := hown4.alloc (.cells ((List.replicate 16 0).map (Value.int .u8)).toArray 39)
  have hb5 : Below W0.heap.size W0 (W4.alloc (.cells ((List.replicate 16 0).map (Value.int .u8)).toArray 39)) := bel_alloc hb4 _
  have hob : ∀ k, Value.ownBlock (.slice a6 (l1.length + pz l1.length + l2.length + pz l2.length) c6) = some k → k < W4.heap.size := fun k hk => (hown4.lt k hk).2
  refine (put8_calls W4.heap.size 0 16 39 (List.replicate 16 0) (l1.length : Int) (by omega) (by simp) _ hn0).mono ?_
  rintro e W6 ⟨rfl, hv1, hg1⟩
  have ho6 := ho5.kept hg1 (.inr (fun e => by have := hob _ e; omega))
  have hb6 := hb5.grown hg1 (by simp; omega) (fun k hk => by injection hk with hk; omega)
  clear ho5 hb5 hn0 hg1 hb4 hown4
  go_wp2_with fail
  refine (put8_calls W4.heap.size 8 8 39 _ (l2.length : Int) (by omega) (by rw [put8_len]; simp) _ hv1).mono ?_
  rintro e W7 ⟨rfl, hv2, hg2'⟩
  have ho7 := ho6.kept hg2' (.inr (fun e => by have := hob _ e; omega))
  have hb7 := hb6.grown hg2' hb6.size (fun k hk => by injection hk with hk; omega)
  have hv2' : IRow W7 W4.heap.size 39 .u8 (lens (l1.length : Int) (l2.length : Int)) := hv2
  clear hv1 hv2 ho6 hb6 hg2'
  have hll : Unit → (lens (l1.length : Int) (l2.length : Int)).length = 16 := fun _ => lens_len _ _
  have hB16 : Bs W7 (.slice (some ⟨W4.heap.size, 0, none⟩) 16 16) (lens (l1.length : Int) (l2.length : Int)) := by
    have h := Bs.ofAt (c := 16) (l := lens (l1.length : Int) (l2.length : Int)) (At.ofRow hv2' (by rw [hll ()]; exact Nat.le_refl _)) (lens_bd _ _) (by rw [hll ()]; omega) (by unfold maxLen; omega)
    rw [hll ()] at h
    exact h
  have hs7 := hb7.size
  go_wp2_with (at_builtin; refine wpList_append_bs _ rfl _ _ 22 rfl W0.heap.size 5 i0 Try.underlying22 hi hz0 hz1 hz2 _ (l1.length + pz l1.length + l2.length + pz l2.length) (((l1 ++ List.replicate (pz l1.length) 0) ++ l2) ++ List.replicate (pz l2.length) 0) rfl ho7 _ rfl _ hB16 (by rw [hll ()]; omega) hs7 ?_)
  intro v8 W8 hown8 hgr8 _
  have hb8 : Below W0.heap.size W0 W8 := hb7.grown hgr8 hs7 (fun k hk => (ho7.lt k hk).1)
  have hml : Unit → _ := fun _ => tagM_len l1 l2
  have ho8 : W8.ownsRow W0.heap.size 5 1 v8 (tagM l1 l2).length ((tagM l1 l2).map (Value.int .u8)) := by
    rw [hml ()]; rw [hll ()] at hown8; simpa [tagM] using hown8
  have hBm := Bs.owns ho8 (tagM_bd hl1 hl2)
  clear hown8 hgr8 ho7 hb7 hB16 hv2' ho8 hs7
  obtain ⟨a9, c9, rfl, _, _⟩ := hBm.form
  have s64 := slice64h g9
  have hA9 : At W8 g9 0 32 (fun k => (blockL kz 0 nz).getD k 0) := At.belowS (At.ofRow hrow (by rw [hbl ()]; omega)) hb8
  have PCc := poly_calls g9 0 64 (fun k => (blockL kz 0 nz).getD k 0) W8 (fun k => block_bd kz 0 nz k) (by omega) (by unfold maxLen; omega) hA9 _ (tagM l1 l2) hBm (by rw [hml ()]; omega)
  have htag : Unit → tagL kz nz l1 l2 = polyL (fun k => (blockL kz 0 nz).getD k 0) (tagM l1 l2) := fun _ => rfl
  have hPn : Unit → (polyL (fun k => (blockL kz 0 nz).getD k 0) (tagM l1 l2)).length = 16 := fun _ => poly_len _ _
  generalize polyL (fun k => (blockL kz 0 nz).getD k 0) (tagM l1 l2) = PT at PCc htag hPn
  go_wp2_with fail
  refine PCc.mono ?_
  clear PCc
  rintro e W9 ⟨rfl, hb9⟩
  have hnew : IRow (W9.alloc (.cells ((List.replicate 16 0).map (Value.int .u8)).toArray 39)) W9.heap.size 39 .u8 (List.replicate 16 0) := IRow.new rfl
  have q9 := slice16c W9.heap.size
  have hbz : Below w.heap.size w W9 := below_S (below_S hbel hb8) hb9
  have hbz2 := hbz.size
  have hpn := hPn ()
  go_wp2_with (refine wpList_store_row rfl 39 _ _ rfl _ _ rfl rfl 39 _ hnew (by rw [List.size_toArray, List.length_map, hpn]; kernel_rfl) (by simp [hpn]) ?c1 ?_; (case c1 => simp [Value.oneCell']))
  go_ret
  exact ⟨⟨_, rfl, hbz2, by rw [htag ()]; exact VRow.setRow hnew _⟩, bel_setRow (bel_alloc hbz _) hbz2 _⟩
end Go.Proofs.Ytddiamocnkffjaa
