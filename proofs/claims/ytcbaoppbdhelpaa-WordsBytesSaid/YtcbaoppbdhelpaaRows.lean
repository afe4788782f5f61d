/-
  No cell of these rows narrows 'for every input' (looked for: loops, veiled, ifaces, maps, wideKeys, modest, calm, conditions, laid).
  DERIVED. THE GIVEN ROWS OF THIS SEAT. 5 by the template 'for every input the law returns true; each argument reads behind the call as it read before'; 0 by the template 'total and deterministic' (their statements: YtcbaoppbdhelpaaTotals.lean).
  GIVEN WITH THE SEED: the statements are not yours to turn. If you find one false, say at which input.
  Laid BY PROGRAM, IN A SANDBOX (cutbox-rows.mjs): the forced cells as the released guide's own fill.sh prints them over the translation 42357db73a10f99e… (all of the seat's roots in one cut). By AI agents, Wed Nov 11 2026. No macro, syntax, notation, axiom, sorry.
-/
import Derived.Test.YtcbaoppbdhelpaaChecked
import GoSem.Claim
import GoSem.ClaimJoined
import GoSem.ClaimMapViews
import Derived.JoinedTies
import Derived.KernelRfl
namespace Go.Proofs.Ytcbaoppbdhelpaa
/- THE CELL 'sum', in the pinned program and in every row, IS THE sha256 OF THE DUMP (.gsa) THAT YtcbaoppbdhelpaaProg.lean LOADS. Nothing in Lean hashes anything: it is a label: what it is worth is what the hold of that sum in a sandbox is worth. -/
noncomputable def Try.pinned : Pinned := { name := "ytcbaoppbdhelpaa", sum := "42357db73a10f99e84e51c5baf5977db52fa470f65cfa5481a570f59f16b4fde", checked := Try.checked }
namespace Rows
def none {H : Type} : Left H := { results := [], args := [] }

/-- 'cartouchelaw01.WordsOrder': WHATEVER THE INPUT: true; the input reads as it did. -/
def wordsOrderSpec : ChangeSpec := { name := "wordsOrder", fn := fun _ => fun
  | [d1, d2, d3] => { results := [.lit (.bool true)], args := [d1, d2, d3] }
  | _ => none }
def wordsOrderRow : OpenClaim := { program := "ytcbaoppbdhelpaa", sum := "42357db73a10f99e84e51c5baf5977db52fa470f65cfa5481a570f59f16b4fde", func := "cartouche/cartouchelaw01.WordsOrder", spec := "wordsOrder", inPlace := ["math/bits.Sub64"], apart := false }
def WordsOrderSaid : Prop := wordsOrderRow.holds Try.pinned (OpenSpec.ofChange wordsOrderSpec)

/-- ITS FALSE NEIGHBOUR: 'it returns false'. Refute it at one input. -/
def wordsOrderWrong : ChangeSpec := { name := "wordsOrder", fn := fun _ => fun
  | [d1, d2, d3] => { results := [.lit (.bool false)], args := [d1, d2, d3] }
  | _ => none }
def WordsOrderWrongFalsely : Prop := wordsOrderRow.holds Try.pinned (OpenSpec.ofChange wordsOrderWrong)

/-- 'cartouchelaw01.WordsBits': WHATEVER THE INPUT: true; the input reads as it did. -/
def wordsBitsSpec : ChangeSpec := { name := "wordsBits", fn := fun _ => fun
  | [d1, d2, d3] => { results := [.lit (.bool true)], args := [d1, d2, d3] }
  | _ => none }
def wordsBitsRow : OpenClaim := { program := "ytcbaoppbdhelpaa", sum := "42357db73a10f99e84e51c5baf5977db52fa470f65cfa5481a570f59f16b4fde", func := "cartouche/cartouchelaw01.WordsBits", spec := "wordsBits", inPlace := ["math/bits.Sub64"], apart := false }
def WordsBitsSaid : Prop := wordsBitsRow.holds Try.pinned (OpenSpec.ofChange wordsBitsSpec)

/-- ITS FALSE NEIGHBOUR: 'it returns false'. Refute it at one input. -/
def wordsBitsWrong : ChangeSpec := { name := "wordsBits", fn := fun _ => fun
  | [d1, d2, d3] => { results := [.lit (.bool false)], args := [d1, d2, d3] }
  | _ => none }
def WordsBitsWrongFalsely : Prop := wordsBitsRow.holds Try.pinned (OpenSpec.ofChange wordsBitsWrong)

/-- 'cartouchelaw01.WordsSums': WHATEVER THE INPUT: true; the input reads as it did. -/
def wordsSumsSpec : ChangeSpec := { name := "wordsSums", fn := fun _ => fun
  | [d1, d2] => { results := [.lit (.bool true)], args := [d1, d2] }
  | _ => none }
def wordsSumsRow : OpenClaim := { program := "ytcbaoppbdhelpaa", sum := "42357db73a10f99e84e51c5baf5977db52fa470f65cfa5481a570f59f16b4fde", func := "cartouche/cartouchelaw01.WordsSums", spec := "wordsSums", inPlace := ["math/bits.Sub64", "math/bits.Add64"], apart := false }
def WordsSumsSaid : Prop := wordsSumsRow.holds Try.pinned (OpenSpec.ofChange wordsSumsSpec)

/-- ITS FALSE NEIGHBOUR: 'it returns false'. Refute it at one input. -/
def wordsSumsWrong : ChangeSpec := { name := "wordsSums", fn := fun _ => fun
  | [d1, d2] => { results := [.lit (.bool false)], args := [d1, d2] }
  | _ => none }
def WordsSumsWrongFalsely : Prop := wordsSumsRow.holds Try.pinned (OpenSpec.ofChange wordsSumsWrong)

/-- 'cartouchelaw01.WordsBack': WHATEVER THE INPUT: true; the input reads as it did. -/
def wordsBackSpec : ChangeSpec := { name := "wordsBack", fn := fun _ => fun
  | [d1, d2] => { results := [.lit (.bool true)], args := [d1, d2] }
  | _ => none }
def wordsBackRow : OpenClaim := { program := "ytcbaoppbdhelpaa", sum := "42357db73a10f99e84e51c5baf5977db52fa470f65cfa5481a570f59f16b4fde", func := "cartouche/cartouchelaw01.WordsBack", spec := "wordsBack", inPlace := ["math/bits.Sub64", "math/bits.Add64"], apart := false }
def WordsBackSaid : Prop := wordsBackRow.holds Try.pinned (OpenSpec.ofChange wordsBackSpec)

/-- ITS FALSE NEIGHBOUR: 'it returns false'. Refute it at one input. -/
def wordsBackWrong : ChangeSpec := { name := "wordsBack", fn := fun _ => fun
  | [d1, d2] => { results := [.lit (.bool false)], args := [d1, d2] }
  | _ => none }
def WordsBackWrongFalsely : Prop := wordsBackRow.holds Try.pinned (OpenSpec.ofChange wordsBackWrong)

/-- 'cartouchelaw01.WordsBytes': WHATEVER THE INPUT: true; the input reads as it did. -/
def wordsBytesSpec : ChangeSpec := { name := "wordsBytes", fn := fun _ => fun
  | [d1, d2] => { results := [.lit (.bool true)], args := [d1, d2] }
  | _ => none }
def wordsBytesRow : OpenClaim := { program := "ytcbaoppbdhelpaa", sum := "42357db73a10f99e84e51c5baf5977db52fa470f65cfa5481a570f59f16b4fde", func := "cartouche/cartouchelaw01.WordsBytes", spec := "wordsBytes", inPlace := ["math/bits.Sub64"], apart := false }
def WordsBytesSaid : Prop := wordsBytesRow.holds Try.pinned (OpenSpec.ofChange wordsBytesSpec)

/-- ITS FALSE NEIGHBOUR: 'it returns false'. Refute it at one input. -/
def wordsBytesWrong : ChangeSpec := { name := "wordsBytes", fn := fun _ => fun
  | [d1, d2] => { results := [.lit (.bool false)], args := [d1, d2] }
  | _ => none }
def WordsBytesWrongFalsely : Prop := wordsBytesRow.holds Try.pinned (OpenSpec.ofChange wordsBytesWrong)

/- THE SECOND FORM. 'bulk': how many values and letters a reading holds, each counted each time it is reached (what is shared counts as often as it is met; a slice's spare places count too). A statement '..UptoSaid' is the law's where the arguments, and the package variables that the reading takes, are together of bulk at most 1048576: NARROWER than '..Said'. Prove '..Said' where nothing that the law and all that it calls make is longer than what came in: it says more and counts as full. Else prove '..UptoSaid'. A law counts once. -/
mutual
def uptoBulk {H : Type} : DataW H → Nat
  | .lit (.string bytes) => bytes.length + 1
  | .lit _ => 1
  | .nil => 1
  | .ptr d => uptoBulk d + 1
  | .slice elems spare => uptoBulkAll elems + uptoBulkAll spare + 1
  | .agg parts => uptoBulkAll parts + 1
  | .iface _ d => uptoBulk d + 1
  | .map entries => uptoBulkEntries entries + 1
  | .held _ => 1
def uptoBulkAll {H : Type} : List (DataW H) → Nat
  | [] => 0
  | d :: r => uptoBulk d + uptoBulkAll r
def uptoBulkEntries {H : Type} : List (Lit × DataW H) → Nat
  | [] => 0
  | x :: r => uptoBulkEntry x + uptoBulkEntries r
def uptoBulkEntry {H : Type} : Lit × DataW H → Nat
  | (.string bytes, d) => bytes.length + uptoBulk d + 1
  | (_, d) => uptoBulk d + 1
 end
def uptoSmall : (H : Type) → List (DataW H) → Bool := fun _ ds => decide (uptoBulkAll ds ≤ 1048576)
def OpenSpec.upto (s : _root_.Go.ChangeSpec) : _root_.Go.OpenSpec := { _root_.Go.OpenSpec.ofChange s with cond := some uptoSmall }

/-- 'cartouchelaw01.WordsOrder', WHERE WHAT IT READS IS OF BULK AT MOST 1048576: true; the input reads as it did. -/
def wordsOrderUptoRow : OpenClaim := { program := "ytcbaoppbdhelpaa", sum := "42357db73a10f99e84e51c5baf5977db52fa470f65cfa5481a570f59f16b4fde", func := "cartouche/cartouchelaw01.WordsOrder", spec := "wordsOrder", inPlace := ["math/bits.Sub64"], apart := false, narrowed := true }
def WordsOrderUptoSaid : Prop := wordsOrderUptoRow.holds Try.pinned (OpenSpec.upto wordsOrderSpec)

/-- 'cartouchelaw01.WordsBits', WHERE WHAT IT READS IS OF BULK AT MOST 1048576: true; the input reads as it did. -/
def wordsBitsUptoRow : OpenClaim := { program := "ytcbaoppbdhelpaa", sum := "42357db73a10f99e84e51c5baf5977db52fa470f65cfa5481a570f59f16b4fde", func := "cartouche/cartouchelaw01.WordsBits", spec := "wordsBits", inPlace := ["math/bits.Sub64"], apart := false, narrowed := true }
def WordsBitsUptoSaid : Prop := wordsBitsUptoRow.holds Try.pinned (OpenSpec.upto wordsBitsSpec)

/-- 'cartouchelaw01.WordsSums', WHERE WHAT IT READS IS OF BULK AT MOST 1048576: true; the input reads as it did. -/
def wordsSumsUptoRow : OpenClaim := { program := "ytcbaoppbdhelpaa", sum := "42357db73a10f99e84e51c5baf5977db52fa470f65cfa5481a570f59f16b4fde", func := "cartouche/cartouchelaw01.WordsSums", spec := "wordsSums", inPlace := ["math/bits.Sub64", "math/bits.Add64"], apart := false, narrowed := true }
def WordsSumsUptoSaid : Prop := wordsSumsUptoRow.holds Try.pinned (OpenSpec.upto wordsSumsSpec)

/-- 'cartouchelaw01.WordsBack', WHERE WHAT IT READS IS OF BULK AT MOST 1048576: true; the input reads as it did. -/
def wordsBackUptoRow : OpenClaim := { program := "ytcbaoppbdhelpaa", sum := "42357db73a10f99e84e51c5baf5977db52fa470f65cfa5481a570f59f16b4fde", func := "cartouche/cartouchelaw01.WordsBack", spec := "wordsBack", inPlace := ["math/bits.Sub64", "math/bits.Add64"], apart := false, narrowed := true }
def WordsBackUptoSaid : Prop := wordsBackUptoRow.holds Try.pinned (OpenSpec.upto wordsBackSpec)

/-- 'cartouchelaw01.WordsBytes', WHERE WHAT IT READS IS OF BULK AT MOST 1048576: true; the input reads as it did. -/
def wordsBytesUptoRow : OpenClaim := { program := "ytcbaoppbdhelpaa", sum := "42357db73a10f99e84e51c5baf5977db52fa470f65cfa5481a570f59f16b4fde", func := "cartouche/cartouchelaw01.WordsBytes", spec := "wordsBytes", inPlace := ["math/bits.Sub64"], apart := false, narrowed := true }
def WordsBytesUptoSaid : Prop := wordsBytesUptoRow.holds Try.pinned (OpenSpec.upto wordsBytesSpec)

end Rows
end Go.Proofs.Ytcbaoppbdhelpaa
