import Derived.Test.YtcbaoppbdhelpaaS
namespace Go.Proofs.Ytcbaoppbdhelpaa
open Go.RowKit Go.Proofs Go.Proofs.MyK
set_option linter.unusedSimpArgs false
set_option linter.unusedVariables false

theorem radd_st (x y c : Int) : x + y + c = aS x y c + 65536 * aC x y c := by unfold aS aC; omega
theorem radd_bd (x y c : Int) : 0 ≤ aS x y c ∧ aS x y c < 65536 := by unfold aS; omega
theorem dg_sumradd (a : Int) (ha : Wd a) : a = dg0 a + dg1 a * 65536 + dg2 a * 4294967296 + dg3 a * 281474976710656 ∧ (0 ≤ dg0 a ∧ dg0 a < 65536) ∧ (0 ≤ dg1 a ∧ dg1 a < 65536) ∧ (0 ≤ dg2 a ∧ dg2 a < 65536) ∧ (0 ≤ dg3 a ∧ dg3 a < 65536) := by
  unfold Wd M at ha; unfold dg0 dg1 dg2 dg3; omega
theorem radd_blk (a b c : Int) (ha : Wd a) (hb : Wd b) (h0 : 0 ≤ c ∧ c ≤ 1) : aS (dg0 a) (dg0 b) c + aS (dg1 a) (dg1 b) (aC (dg0 a) (dg0 b) c) * 65536 + aS (dg2 a) (dg2 b) (aC (dg1 a) (dg1 b) (aC (dg0 a) (dg0 b) c)) * 4294967296 + aS (dg3 a) (dg3 b) (aC (dg2 a) (dg2 b) (aC (dg1 a) (dg1 b) (aC (dg0 a) (dg0 b) c))) * 281474976710656 = sumS a b c ∧ (aC (dg3 a) (dg3 b) (aC (dg2 a) (dg2 b) (aC (dg1 a) (dg1 b) (aC (dg0 a) (dg0 b) c)))) = sumC a b c := by
  obtain ⟨ea, a0, a1, a2, a3⟩ := dg_sumradd a ha
  obtain ⟨eb, b0, b1, b2, b3⟩ := dg_sumradd b hb
  generalize dg0 a = x0 at *; generalize dg1 a = x1 at *; generalize dg2 a = x2 at *; generalize dg3 a = x3 at *
  generalize dg0 b = y0 at *; generalize dg1 b = y1 at *; generalize dg2 b = y2 at *; generalize dg3 b = y3 at *
  subst ea eb
  have t1 := radd_st x0 y0 c; have s1 := radd_bd x0 y0 c; have k1 := aC_bd x0 y0 c a0 b0 h0
  generalize aS x0 y0 c = s0 at *; generalize aC x0 y0 c = c1 at *
  have t2 := radd_st x1 y1 c1; have s2 := radd_bd x1 y1 c1; have k2 := aC_bd x1 y1 c1 a1 b1 k1
  generalize aS x1 y1 c1 = s1' at *; generalize aC x1 y1 c1 = c2 at *
  have t3 := radd_st x2 y2 c2; have s3 := radd_bd x2 y2 c2; have k3 := aC_bd x2 y2 c2 a2 b2 k2
  generalize aS x2 y2 c2 = s2' at *; generalize aC x2 y2 c2 = c3 at *
  have t4 := radd_st x3 y3 c3; have s4 := radd_bd x3 y3 c3; have k4 := aC_bd x3 y3 c3 a3 b3 k3
  generalize aS x3 y3 c3 = s3' at *; generalize aC x3 y3 c3 = c4 at *
  clear ha hb
  unfold sumS sumC
  (try unfold M)
  constructor <;> omega

theorem rsub_st (x y c : Int) : x - y - c = bS x y c - 65536 * bC x y c := by unfold bS bC; omega
theorem rsub_bd (x y c : Int) : 0 ≤ bS x y c ∧ bS x y c < 65536 := by unfold bS; omega
theorem dg_sumrsub (a : Int) (ha : Wd a) : a = dg0 a + dg1 a * 65536 + dg2 a * 4294967296 + dg3 a * 281474976710656 ∧ (0 ≤ dg0 a ∧ dg0 a < 65536) ∧ (0 ≤ dg1 a ∧ dg1 a < 65536) ∧ (0 ≤ dg2 a ∧ dg2 a < 65536) ∧ (0 ≤ dg3 a ∧ dg3 a < 65536) := by
  unfold Wd M at ha; unfold dg0 dg1 dg2 dg3; omega
theorem rsub_blk (a b c : Int) (ha : Wd a) (hb : Wd b) (h0 : 0 ≤ c ∧ c ≤ 1) : bS (dg0 a) (dg0 b) c + bS (dg1 a) (dg1 b) (bC (dg0 a) (dg0 b) c) * 65536 + bS (dg2 a) (dg2 b) (bC (dg1 a) (dg1 b) (bC (dg0 a) (dg0 b) c)) * 4294967296 + bS (dg3 a) (dg3 b) (bC (dg2 a) (dg2 b) (bC (dg1 a) (dg1 b) (bC (dg0 a) (dg0 b) c))) * 281474976710656 = difS a b c ∧ (bC (dg3 a) (dg3 b) (bC (dg2 a) (dg2 b) (bC (dg1 a) (dg1 b) (bC (dg0 a) (dg0 b) c)))) = difB a b c := by
  obtain ⟨ea, a0, a1, a2, a3⟩ := dg_sumrsub a ha
  obtain ⟨eb, b0, b1, b2, b3⟩ := dg_sumrsub b hb
  generalize dg0 a = x0 at *; generalize dg1 a = x1 at *; generalize dg2 a = x2 at *; generalize dg3 a = x3 at *
  generalize dg0 b = y0 at *; generalize dg1 b = y1 at *; generalize dg2 b = y2 at *; generalize dg3 b = y3 at *
  subst ea eb
  have t1 := rsub_st x0 y0 c; have s1 := rsub_bd x0 y0 c; have k1 := bC_bd x0 y0 c a0 b0 h0
  generalize bS x0 y0 c = s0 at *; generalize bC x0 y0 c = c1 at *
  have t2 := rsub_st x1 y1 c1; have s2 := rsub_bd x1 y1 c1; have k2 := bC_bd x1 y1 c1 a1 b1 k1
  generalize bS x1 y1 c1 = s1' at *; generalize bC x1 y1 c1 = c2 at *
  have t3 := rsub_st x2 y2 c2; have s3 := rsub_bd x2 y2 c2; have k3 := bC_bd x2 y2 c2 a2 b2 k2
  generalize bS x2 y2 c2 = s2' at *; generalize bC x2 y2 c2 = c3 at *
  have t4 := rsub_st x3 y3 c3; have s4 := rsub_bd x3 y3 c3; have k4 := bC_bd x3 y3 c3 a3 b3 k3
  generalize bS x3 y3 c3 = s3' at *; generalize bC x3 y3 c3 = c4 at *
  clear ha hb
  unfold difS difB
  (try unfold M)
  refine ⟨by omega, ?_⟩
  split <;> omega
end Go.Proofs.Ytcbaoppbdhelpaa
