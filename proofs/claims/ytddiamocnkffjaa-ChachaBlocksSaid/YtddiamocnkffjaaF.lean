import Derived.Test.YtddiamocnkffjaaE
namespace Go.Proofs.Ytddiamocnkffjaa
open Go.RowKit Go.Proofs Go.Proofs.MyK
set_option linter.unusedSimpArgs false
set_option linter.unusedVariables false
/-- Two rounds. -/
def dr (s : List Int) : List Int :=
  qr (qr (qr (qr (qr (qr (qr (qr s 0 4 8 12) 1 5 9 13) 2 6 10 14) 3 7 11 15) 0 5 10 15) 1 6 11 12) 2 7 8 13) 3 4 9 14
def drs (s : List Int) : Nat → List Int
  | 0 => s
  | k + 1 => dr (drs s k)
theorem A32.dr {s : List Int} (h : A32 s) : A32 (dr s) := (((((((h.qr _ _ _ _).qr _ _ _ _).qr _ _ _ _).qr _ _ _ _).qr _ _ _ _).qr _ _ _ _).qr _ _ _ _).qr _ _ _ _
theorem A32.drs {s : List Int} (h : A32 s) : ∀ k, A32 (drs s k)
  | 0 => h
  | k + 1 => (A32.drs h k).dr
/-- The block's words ahead of the rounds. -/
def st0 (kz : Nat → Int) (c : Int) (nz : Nat → Int) : List Int :=
  [1634760805, 857760878, 2036477234, 1797285236, le4 (fun k => kz (0 + k)), le4 (fun k => kz (4 + k)), le4 (fun k => kz (8 + k)), le4 (fun k => kz (12 + k)), le4 (fun k => kz (16 + k)), le4 (fun k => kz (20 + k)), le4 (fun k => kz (24 + k)), le4 (fun k => kz (28 + k)), c, le4 (fun k => nz (0 + k)), le4 (fun k => nz (4 + k)), le4 (fun k => nz (8 + k))]
end Go.Proofs.Ytddiamocnkffjaa
