/-
  No cell of these rows narrows 'for every input' (looked for: loops, veiled, ifaces, maps, wideKeys, modest, calm, conditions, laid).
  DERIVED. THE GIVEN ROWS OF THIS SEAT. 17 by the template 'for every input the law returns true; each argument reads behind the call as it read before'; 0 by the template 'total and deterministic' (their statements: YtpjchgiemmnikaaTotals.lean).
  GIVEN WITH THE SEED: the statements are not yours to turn. If you find one false, say at which input.
  Laid BY PROGRAM, IN A SANDBOX (cutbox-rows.mjs): the forced cells as the released guide's own fill.sh prints them over the translation 625d1a370d507d91… (all of the seat's roots in one cut). By AI agents, Wed Nov 11 2026. No macro, syntax, notation, axiom, sorry.
-/
import Derived.Test.YtpjchgiemmnikaaChecked
import GoSem.Claim
import GoSem.ClaimJoined
import GoSem.ClaimMapViews
import Derived.JoinedTies
import Derived.KernelRfl
namespace Go.Proofs.Ytpjchgiemmnikaa
/- THE CELL 'sum', in the pinned program and in every row, IS THE sha256 OF THE DUMP (.gsa) THAT YtpjchgiemmnikaaProg.lean LOADS. Nothing in Lean hashes anything: it is a label: what it is worth is what the hold of that sum in a sandbox is worth. -/
noncomputable def Try.pinned : Pinned := { name := "ytpjchgiemmnikaa", sum := "625d1a370d507d91bbc1b608c5a8231b08a2ab9e1b95531a941e11a933c9655b", checked := Try.checked }
namespace Rows
def none {H : Type} : Left H := { results := [], args := [] }

/-- 'varvelaw08.KmvChecks': WHATEVER THE INPUT: true; the input reads as it did. -/
def kmvChecksSpec : ChangeSpec := { name := "kmvChecks", fn := fun _ => fun
  | [d] => { results := [.lit (.bool true)], args := [d] }
  | _ => none }
def kmvChecksRow : OpenClaim := { program := "ytpjchgiemmnikaa", sum := "625d1a370d507d91bbc1b608c5a8231b08a2ab9e1b95531a941e11a933c9655b", func := "varve/varvelaw08.KmvChecks", spec := "kmvChecks", recurses := true, named := ["math/bits.divideError", "math/bits.overflowError"], apart := false }
def KmvChecksSaid : Prop := kmvChecksRow.holds Try.pinned (OpenSpec.ofChange kmvChecksSpec)

/-- ITS FALSE NEIGHBOUR: 'it returns false'. Refute it at one input. -/
def kmvChecksWrong : ChangeSpec := { name := "kmvChecks", fn := fun _ => fun
  | [d] => { results := [.lit (.bool false)], args := [d] }
  | _ => none }
def KmvChecksWrongFalsely : Prop := kmvChecksRow.holds Try.pinned (OpenSpec.ofChange kmvChecksWrong)

/-- 'varvelaw08.KmvFew': WHATEVER THE INPUT: true; the input reads as it did. -/
def kmvFewSpec : ChangeSpec := { name := "kmvFew", fn := fun _ => fun
  | [d1, d2] => { results := [.lit (.bool true)], args := [d1, d2] }
  | _ => none }
def kmvFewRow : OpenClaim := { program := "ytpjchgiemmnikaa", sum := "625d1a370d507d91bbc1b608c5a8231b08a2ab9e1b95531a941e11a933c9655b", func := "varve/varvelaw08.KmvFew", spec := "kmvFew", recurses := true, named := ["math/bits.divideError", "math/bits.overflowError"], apart := false }
def KmvFewSaid : Prop := kmvFewRow.holds Try.pinned (OpenSpec.ofChange kmvFewSpec)

/-- ITS FALSE NEIGHBOUR: 'it returns false'. Refute it at one input. -/
def kmvFewWrong : ChangeSpec := { name := "kmvFew", fn := fun _ => fun
  | [d1, d2] => { results := [.lit (.bool false)], args := [d1, d2] }
  | _ => none }
def KmvFewWrongFalsely : Prop := kmvFewRow.holds Try.pinned (OpenSpec.ofChange kmvFewWrong)

/-- 'varvelaw08.KmvMany': WHATEVER THE INPUT: true; the input reads as it did. -/
def kmvManySpec : ChangeSpec := { name := "kmvMany", fn := fun _ => fun
  | [d1, d2, d3] => { results := [.lit (.bool true)], args := [d1, d2, d3] }
  | _ => none }
def kmvManyRow : OpenClaim := { program := "ytpjchgiemmnikaa", sum := "625d1a370d507d91bbc1b608c5a8231b08a2ab9e1b95531a941e11a933c9655b", func := "varve/varvelaw08.KmvMany", spec := "kmvMany", recurses := true, named := ["math/bits.divideError", "math/bits.overflowError"], apart := false }
def KmvManySaid : Prop := kmvManyRow.holds Try.pinned (OpenSpec.ofChange kmvManySpec)

/-- ITS FALSE NEIGHBOUR: 'it returns false'. Refute it at one input. -/
def kmvManyWrong : ChangeSpec := { name := "kmvMany", fn := fun _ => fun
  | [d1, d2, d3] => { results := [.lit (.bool false)], args := [d1, d2, d3] }
  | _ => none }
def KmvManyWrongFalsely : Prop := kmvManyRow.holds Try.pinned (OpenSpec.ofChange kmvManyWrong)

/-- 'varvelaw08.KmvPlays': WHATEVER THE INPUT: true; the input reads as it did. -/
def kmvPlaysSpec : ChangeSpec := { name := "kmvPlays", fn := fun _ => fun
  | [d1, d2] => { results := [.lit (.bool true)], args := [d1, d2] }
  | _ => none }
def kmvPlaysRow : OpenClaim := { program := "ytpjchgiemmnikaa", sum := "625d1a370d507d91bbc1b608c5a8231b08a2ab9e1b95531a941e11a933c9655b", func := "varve/varvelaw08.KmvPlays", spec := "kmvPlays", recurses := true, named := ["math/bits.divideError", "math/bits.overflowError"], apart := false }
def KmvPlaysSaid : Prop := kmvPlaysRow.holds Try.pinned (OpenSpec.ofChange kmvPlaysSpec)

/-- ITS FALSE NEIGHBOUR: 'it returns false'. Refute it at one input. -/
def kmvPlaysWrong : ChangeSpec := { name := "kmvPlays", fn := fun _ => fun
  | [d1, d2] => { results := [.lit (.bool false)], args := [d1, d2] }
  | _ => none }
def KmvPlaysWrongFalsely : Prop := kmvPlaysRow.holds Try.pinned (OpenSpec.ofChange kmvPlaysWrong)

/-- 'varvelaw08.KmvTurns': WHATEVER THE INPUT: true; the input reads as it did. -/
def kmvTurnsSpec : ChangeSpec := { name := "kmvTurns", fn := fun _ => fun
  | [d1, d2, d3] => { results := [.lit (.bool true)], args := [d1, d2, d3] }
  | _ => none }
def kmvTurnsRow : OpenClaim := { program := "ytpjchgiemmnikaa", sum := "625d1a370d507d91bbc1b608c5a8231b08a2ab9e1b95531a941e11a933c9655b", func := "varve/varvelaw08.KmvTurns", spec := "kmvTurns", recurses := true, named := ["math/bits.divideError", "math/bits.overflowError"], apart := false }
def KmvTurnsSaid : Prop := kmvTurnsRow.holds Try.pinned (OpenSpec.ofChange kmvTurnsSpec)

/-- ITS FALSE NEIGHBOUR: 'it returns false'. Refute it at one input. -/
def kmvTurnsWrong : ChangeSpec := { name := "kmvTurns", fn := fun _ => fun
  | [d1, d2, d3] => { results := [.lit (.bool false)], args := [d1, d2, d3] }
  | _ => none }
def KmvTurnsWrongFalsely : Prop := kmvTurnsRow.holds Try.pinned (OpenSpec.ofChange kmvTurnsWrong)

/-- 'varvelaw08.KmvLeast': WHATEVER THE INPUT: true; the input reads as it did. -/
def kmvLeastSpec : ChangeSpec := { name := "kmvLeast", fn := fun _ => fun
  | [d1, d2] => { results := [.lit (.bool true)], args := [d1, d2] }
  | _ => none }
def kmvLeastRow : OpenClaim := { program := "ytpjchgiemmnikaa", sum := "625d1a370d507d91bbc1b608c5a8231b08a2ab9e1b95531a941e11a933c9655b", func := "varve/varvelaw08.KmvLeast", spec := "kmvLeast", recurses := true, named := ["math/bits.divideError", "math/bits.overflowError"], apart := false }
def KmvLeastSaid : Prop := kmvLeastRow.holds Try.pinned (OpenSpec.ofChange kmvLeastSpec)

/-- ITS FALSE NEIGHBOUR: 'it returns false'. Refute it at one input. -/
def kmvLeastWrong : ChangeSpec := { name := "kmvLeast", fn := fun _ => fun
  | [d1, d2] => { results := [.lit (.bool false)], args := [d1, d2] }
  | _ => none }
def KmvLeastWrongFalsely : Prop := kmvLeastRow.holds Try.pinned (OpenSpec.ofChange kmvLeastWrong)

/-- 'varvelaw08.KmvGrows': WHATEVER THE INPUT: true; the input reads as it did. -/
def kmvGrowsSpec : ChangeSpec := { name := "kmvGrows", fn := fun _ => fun
  | [d1, d2] => { results := [.lit (.bool true)], args := [d1, d2] }
  | _ => none }
def kmvGrowsRow : OpenClaim := { program := "ytpjchgiemmnikaa", sum := "625d1a370d507d91bbc1b608c5a8231b08a2ab9e1b95531a941e11a933c9655b", func := "varve/varvelaw08.KmvGrows", spec := "kmvGrows", recurses := true, named := ["math/bits.divideError", "math/bits.overflowError"], apart := false }
def KmvGrowsSaid : Prop := kmvGrowsRow.holds Try.pinned (OpenSpec.ofChange kmvGrowsSpec)

/-- ITS FALSE NEIGHBOUR: 'it returns false'. Refute it at one input. -/
def kmvGrowsWrong : ChangeSpec := { name := "kmvGrows", fn := fun _ => fun
  | [d1, d2] => { results := [.lit (.bool false)], args := [d1, d2] }
  | _ => none }
def KmvGrowsWrongFalsely : Prop := kmvGrowsRow.holds Try.pinned (OpenSpec.ofChange kmvGrowsWrong)

/-- 'varvelaw10.PairOf': WHATEVER THE INPUT: true; the input reads as it did. -/
def pairOfSpec : ChangeSpec := { name := "pairOf", fn := fun _ => fun
  | [d] => { results := [.lit (.bool true)], args := [d] }
  | _ => none }
def pairOfRow : OpenClaim := { program := "ytpjchgiemmnikaa", sum := "625d1a370d507d91bbc1b608c5a8231b08a2ab9e1b95531a941e11a933c9655b", func := "varve/varvelaw10.PairOf", spec := "pairOf", inPlace := ["math/bits.Add64", "math.Float64frombits"], recurses := true, apart := false }
def PairOfSaid : Prop := pairOfRow.holds Try.pinned (OpenSpec.ofChange pairOfSpec)

/-- ITS FALSE NEIGHBOUR: 'it returns false'. Refute it at one input. -/
def pairOfWrong : ChangeSpec := { name := "pairOf", fn := fun _ => fun
  | [d] => { results := [.lit (.bool false)], args := [d] }
  | _ => none }
def PairOfWrongFalsely : Prop := pairOfRow.holds Try.pinned (OpenSpec.ofChange pairOfWrong)

/-- 'varvelaw08.KmvBytes': WHATEVER THE INPUT: true; the input reads as it did. -/
def kmvBytesSpec : ChangeSpec := { name := "kmvBytes", fn := fun _ => fun
  | [d1, d2, d3] => { results := [.lit (.bool true)], args := [d1, d2, d3] }
  | _ => none }
def kmvBytesRow : OpenClaim := { program := "ytpjchgiemmnikaa", sum := "625d1a370d507d91bbc1b608c5a8231b08a2ab9e1b95531a941e11a933c9655b", func := "varve/varvelaw08.KmvBytes", spec := "kmvBytes", recurses := true, named := ["math/bits.divideError", "math/bits.overflowError"], apart := false }
def KmvBytesSaid : Prop := kmvBytesRow.holds Try.pinned (OpenSpec.ofChange kmvBytesSpec)

/-- ITS FALSE NEIGHBOUR: 'it returns false'. Refute it at one input. -/
def kmvBytesWrong : ChangeSpec := { name := "kmvBytes", fn := fun _ => fun
  | [d1, d2, d3] => { results := [.lit (.bool false)], args := [d1, d2, d3] }
  | _ => none }
def KmvBytesWrongFalsely : Prop := kmvBytesRow.holds Try.pinned (OpenSpec.ofChange kmvBytesWrong)

/-- 'varvelaw10.PairChecks': WHATEVER THE INPUT: true; the input reads as it did. -/
def pairChecksSpec : ChangeSpec := { name := "pairChecks", fn := fun _ => fun
  | [d1, d2] => { results := [.lit (.bool true)], args := [d1, d2] }
  | _ => none }
def pairChecksRow : OpenClaim := { program := "ytpjchgiemmnikaa", sum := "625d1a370d507d91bbc1b608c5a8231b08a2ab9e1b95531a941e11a933c9655b", func := "varve/varvelaw10.PairChecks", spec := "pairChecks", inPlace := ["math.Float64frombits", "math/bits.Add64"], recurses := true, apart := false }
def PairChecksSaid : Prop := pairChecksRow.holds Try.pinned (OpenSpec.ofChange pairChecksSpec)

/-- ITS FALSE NEIGHBOUR: 'it returns false'. Refute it at one input. -/
def pairChecksWrong : ChangeSpec := { name := "pairChecks", fn := fun _ => fun
  | [d1, d2] => { results := [.lit (.bool false)], args := [d1, d2] }
  | _ => none }
def PairChecksWrongFalsely : Prop := pairChecksRow.holds Try.pinned (OpenSpec.ofChange pairChecksWrong)

/-- 'varvelaw10.PairSums': WHATEVER THE INPUT: true; the input reads as it did. -/
def pairSumsSpec : ChangeSpec := { name := "pairSums", fn := fun _ => fun
  | [d] => { results := [.lit (.bool true)], args := [d] }
  | _ => none }
def pairSumsRow : OpenClaim := { program := "ytpjchgiemmnikaa", sum := "625d1a370d507d91bbc1b608c5a8231b08a2ab9e1b95531a941e11a933c9655b", func := "varve/varvelaw10.PairSums", spec := "pairSums", inPlace := ["math/bits.Add64", "math.Float64frombits"], recurses := true, apart := false }
def PairSumsSaid : Prop := pairSumsRow.holds Try.pinned (OpenSpec.ofChange pairSumsSpec)

/-- ITS FALSE NEIGHBOUR: 'it returns false'. Refute it at one input. -/
def pairSumsWrong : ChangeSpec := { name := "pairSums", fn := fun _ => fun
  | [d] => { results := [.lit (.bool false)], args := [d] }
  | _ => none }
def PairSumsWrongFalsely : Prop := pairSumsRow.holds Try.pinned (OpenSpec.ofChange pairSumsWrong)

/-- 'varvelaw10.PairMerges': WHATEVER THE INPUT: true; the input reads as it did. -/
def pairMergesSpec : ChangeSpec := { name := "pairMerges", fn := fun _ => fun
  | [d1, d2] => { results := [.lit (.bool true)], args := [d1, d2] }
  | _ => none }
def pairMergesRow : OpenClaim := { program := "ytpjchgiemmnikaa", sum := "625d1a370d507d91bbc1b608c5a8231b08a2ab9e1b95531a941e11a933c9655b", func := "varve/varvelaw10.PairMerges", spec := "pairMerges", inPlace := ["math.Float64frombits", "math/bits.Add64"], recurses := true, apart := false }
def PairMergesSaid : Prop := pairMergesRow.holds Try.pinned (OpenSpec.ofChange pairMergesSpec)

/-- ITS FALSE NEIGHBOUR: 'it returns false'. Refute it at one input. -/
def pairMergesWrong : ChangeSpec := { name := "pairMerges", fn := fun _ => fun
  | [d1, d2] => { results := [.lit (.bool false)], args := [d1, d2] }
  | _ => none }
def PairMergesWrongFalsely : Prop := pairMergesRow.holds Try.pinned (OpenSpec.ofChange pairMergesWrong)

/-- 'varvelaw10.PairOwn': WHATEVER THE INPUT: true; the input reads as it did. -/
def pairOwnSpec : ChangeSpec := { name := "pairOwn", fn := fun _ => fun
  | [d1, d2] => { results := [.lit (.bool true)], args := [d1, d2] }
  | _ => none }
def pairOwnRow : OpenClaim := { program := "ytpjchgiemmnikaa", sum := "625d1a370d507d91bbc1b608c5a8231b08a2ab9e1b95531a941e11a933c9655b", func := "varve/varvelaw10.PairOwn", spec := "pairOwn", inPlace := ["math/bits.Add64", "math.Float64frombits"], recurses := true, apart := false }
def PairOwnSaid : Prop := pairOwnRow.holds Try.pinned (OpenSpec.ofChange pairOwnSpec)

/-- ITS FALSE NEIGHBOUR: 'it returns false'. Refute it at one input. -/
def pairOwnWrong : ChangeSpec := { name := "pairOwn", fn := fun _ => fun
  | [d1, d2] => { results := [.lit (.bool false)], args := [d1, d2] }
  | _ => none }
def PairOwnWrongFalsely : Prop := pairOwnRow.holds Try.pinned (OpenSpec.ofChange pairOwnWrong)

/-- 'varvelaw10.PairParts': WHATEVER THE INPUT: true; the input reads as it did. -/
def pairPartsSpec : ChangeSpec := { name := "pairParts", fn := fun _ => fun
  | [d1, d2, d3] => { results := [.lit (.bool true)], args := [d1, d2, d3] }
  | _ => none }
def pairPartsRow : OpenClaim := { program := "ytpjchgiemmnikaa", sum := "625d1a370d507d91bbc1b608c5a8231b08a2ab9e1b95531a941e11a933c9655b", func := "varve/varvelaw10.PairParts", spec := "pairParts", inPlace := ["math/bits.Add64", "math.Float64frombits"], recurses := true, apart := false }
def PairPartsSaid : Prop := pairPartsRow.holds Try.pinned (OpenSpec.ofChange pairPartsSpec)

/-- ITS FALSE NEIGHBOUR: 'it returns false'. Refute it at one input. -/
def pairPartsWrong : ChangeSpec := { name := "pairParts", fn := fun _ => fun
  | [d1, d2, d3] => { results := [.lit (.bool false)], args := [d1, d2, d3] }
  | _ => none }
def PairPartsWrongFalsely : Prop := pairPartsRow.holds Try.pinned (OpenSpec.ofChange pairPartsWrong)

/-- 'varvelaw10.PairZero': WHATEVER THE INPUT: true; the input reads as it did. -/
def pairZeroSpec : ChangeSpec := { name := "pairZero", fn := fun _ => fun
  | [d] => { results := [.lit (.bool true)], args := [d] }
  | _ => none }
def pairZeroRow : OpenClaim := { program := "ytpjchgiemmnikaa", sum := "625d1a370d507d91bbc1b608c5a8231b08a2ab9e1b95531a941e11a933c9655b", func := "varve/varvelaw10.PairZero", spec := "pairZero", inPlace := ["math/bits.Add64", "math.Float64frombits"], recurses := true, apart := false }
def PairZeroSaid : Prop := pairZeroRow.holds Try.pinned (OpenSpec.ofChange pairZeroSpec)

/-- ITS FALSE NEIGHBOUR: 'it returns false'. Refute it at one input. -/
def pairZeroWrong : ChangeSpec := { name := "pairZero", fn := fun _ => fun
  | [d] => { results := [.lit (.bool false)], args := [d] }
  | _ => none }
def PairZeroWrongFalsely : Prop := pairZeroRow.holds Try.pinned (OpenSpec.ofChange pairZeroWrong)

/-- 'varvelaw10.PairTurns': WHATEVER THE INPUT: true; the input reads as it did. -/
def pairTurnsSpec : ChangeSpec := { name := "pairTurns", fn := fun _ => fun
  | [d1, d2, d3] => { results := [.lit (.bool true)], args := [d1, d2, d3] }
  | _ => none }
def pairTurnsRow : OpenClaim := { program := "ytpjchgiemmnikaa", sum := "625d1a370d507d91bbc1b608c5a8231b08a2ab9e1b95531a941e11a933c9655b", func := "varve/varvelaw10.PairTurns", spec := "pairTurns", inPlace := ["math/bits.Add64", "math.Float64frombits"], recurses := true, apart := false }
def PairTurnsSaid : Prop := pairTurnsRow.holds Try.pinned (OpenSpec.ofChange pairTurnsSpec)

/-- ITS FALSE NEIGHBOUR: 'it returns false'. Refute it at one input. -/
def pairTurnsWrong : ChangeSpec := { name := "pairTurns", fn := fun _ => fun
  | [d1, d2, d3] => { results := [.lit (.bool false)], args := [d1, d2, d3] }
  | _ => none }
def PairTurnsWrongFalsely : Prop := pairTurnsRow.holds Try.pinned (OpenSpec.ofChange pairTurnsWrong)

/-- 'varvelaw10.PairBytes': WHATEVER THE INPUT: true; the input reads as it did. -/
def pairBytesSpec : ChangeSpec := { name := "pairBytes", fn := fun _ => fun
  | [d1, d2, d3] => { results := [.lit (.bool true)], args := [d1, d2, d3] }
  | _ => none }
def pairBytesRow : OpenClaim := { program := "ytpjchgiemmnikaa", sum := "625d1a370d507d91bbc1b608c5a8231b08a2ab9e1b95531a941e11a933c9655b", func := "varve/varvelaw10.PairBytes", spec := "pairBytes", inPlace := ["math.Float64frombits", "math/bits.Add64"], recurses := true, apart := false }
def PairBytesSaid : Prop := pairBytesRow.holds Try.pinned (OpenSpec.ofChange pairBytesSpec)

/-- ITS FALSE NEIGHBOUR: 'it returns false'. Refute it at one input. -/
def pairBytesWrong : ChangeSpec := { name := "pairBytes", fn := fun _ => fun
  | [d1, d2, d3] => { results := [.lit (.bool false)], args := [d1, d2, d3] }
  | _ => none }
def PairBytesWrongFalsely : Prop := pairBytesRow.holds Try.pinned (OpenSpec.ofChange pairBytesWrong)

/- THE SECOND FORM. 'bulk': how many values and letters a reading holds, each counted each time it is reached (what is shared counts as often as it is met; a slice's spare places count too). A statement '..UptoSaid' is the law's where the arguments, and the package variables that the reading takes, are together of bulk at most 1048576: NARROWER than '..Said'. Prove '..Said' where nothing that the law and all that it calls make is longer than what came in: it says more and counts as full. Else prove '..UptoSaid'. A law counts once. -/
mutual
def uptoBulk {H : Type} : DataW H → Nat
  | .lit (.string bytes) => bytes.length + 1
  | .lit _ => 1
  | .nil => 1
  | .ptr d => uptoBulk d + 1
  | .slice elems spare => uptoBulkAll elems + uptoBulkAll spare + 1
  | .agg parts => uptoBulkAll parts + 1
  | .iface _ d => uptoBulk d + 1
  | .map entries => uptoBulkEntries entries + 1
  | .held _ => 1
def uptoBulkAll {H : Type} : List (DataW H) → Nat
  | [] => 0
  | d :: r => uptoBulk d + uptoBulkAll r
def uptoBulkEntries {H : Type} : List (Lit × DataW H) → Nat
  | [] => 0
  | x :: r => uptoBulkEntry x + uptoBulkEntries r
def uptoBulkEntry {H : Type} : Lit × DataW H → Nat
  | (.string bytes, d) => bytes.length + uptoBulk d + 1
  | (_, d) => uptoBulk d + 1
 end
def uptoSmall : (H : Type) → List (DataW H) → Bool := fun _ ds => decide (uptoBulkAll ds ≤ 1048576)
def OpenSpec.upto (s : _root_.Go.ChangeSpec) : _root_.Go.OpenSpec := { _root_.Go.OpenSpec.ofChange s with cond := some uptoSmall }

/-- 'varvelaw08.KmvChecks', WHERE WHAT IT READS IS OF BULK AT MOST 1048576: true; the input reads as it did. -/
def kmvChecksUptoRow : OpenClaim := { program := "ytpjchgiemmnikaa", sum := "625d1a370d507d91bbc1b608c5a8231b08a2ab9e1b95531a941e11a933c9655b", func := "varve/varvelaw08.KmvChecks", spec := "kmvChecks", recurses := true, named := ["math/bits.divideError", "math/bits.overflowError"], apart := false, narrowed := true }
def KmvChecksUptoSaid : Prop := kmvChecksUptoRow.holds Try.pinned (OpenSpec.upto kmvChecksSpec)

/-- 'varvelaw08.KmvFew', WHERE WHAT IT READS IS OF BULK AT MOST 1048576: true; the input reads as it did. -/
def kmvFewUptoRow : OpenClaim := { program := "ytpjchgiemmnikaa", sum := "625d1a370d507d91bbc1b608c5a8231b08a2ab9e1b95531a941e11a933c9655b", func := "varve/varvelaw08.KmvFew", spec := "kmvFew", recurses := true, named := ["math/bits.divideError", "math/bits.overflowError"], apart := false, narrowed := true }
def KmvFewUptoSaid : Prop := kmvFewUptoRow.holds Try.pinned (OpenSpec.upto kmvFewSpec)

/-- 'varvelaw08.KmvMany', WHERE WHAT IT READS IS OF BULK AT MOST 1048576: true; the input reads as it did. -/
def kmvManyUptoRow : OpenClaim := { program := "ytpjchgiemmnikaa", sum := "625d1a370d507d91bbc1b608c5a8231b08a2ab9e1b95531a941e11a933c9655b", func := "varve/varvelaw08.KmvMany", spec := "kmvMany", recurses := true, named := ["math/bits.divideError", "math/bits.overflowError"], apart := false, narrowed := true }
def KmvManyUptoSaid : Prop := kmvManyUptoRow.holds Try.pinned (OpenSpec.upto kmvManySpec)

/-- 'varvelaw08.KmvPlays', WHERE WHAT IT READS IS OF BULK AT MOST 1048576: true; the input reads as it did. -/
def kmvPlaysUptoRow : OpenClaim := { program := "ytpjchgiemmnikaa", sum := "625d1a370d507d91bbc1b608c5a8231b08a2ab9e1b95531a941e11a933c9655b", func := "varve/varvelaw08.KmvPlays", spec := "kmvPlays", recurses := true, named := ["math/bits.divideError", "math/bits.overflowError"], apart := false, narrowed := true }
def KmvPlaysUptoSaid : Prop := kmvPlaysUptoRow.holds Try.pinned (OpenSpec.upto kmvPlaysSpec)

/-- 'varvelaw08.KmvTurns', WHERE WHAT IT READS IS OF BULK AT MOST 1048576: true; the input reads as it did. -/
def kmvTurnsUptoRow : OpenClaim := { program := "ytpjchgiemmnikaa", sum := "625d1a370d507d91bbc1b608c5a8231b08a2ab9e1b95531a941e11a933c9655b", func := "varve/varvelaw08.KmvTurns", spec := "kmvTurns", recurses := true, named := ["math/bits.divideError", "math/bits.overflowError"], apart := false, narrowed := true }
def KmvTurnsUptoSaid : Prop := kmvTurnsUptoRow.holds Try.pinned (OpenSpec.upto kmvTurnsSpec)

/-- 'varvelaw08.KmvLeast', WHERE WHAT IT READS IS OF BULK AT MOST 1048576: true; the input reads as it did. -/
def kmvLeastUptoRow : OpenClaim := { program := "ytpjchgiemmnikaa", sum := "625d1a370d507d91bbc1b608c5a8231b08a2ab9e1b95531a941e11a933c9655b", func := "varve/varvelaw08.KmvLeast", spec := "kmvLeast", recurses := true, named := ["math/bits.divideError", "math/bits.overflowError"], apart := false, narrowed := true }
def KmvLeastUptoSaid : Prop := kmvLeastUptoRow.holds Try.pinned (OpenSpec.upto kmvLeastSpec)

/-- 'varvelaw08.KmvGrows', WHERE WHAT IT READS IS OF BULK AT MOST 1048576: true; the input reads as it did. -/
def kmvGrowsUptoRow : OpenClaim := { program := "ytpjchgiemmnikaa", sum := "625d1a370d507d91bbc1b608c5a8231b08a2ab9e1b95531a941e11a933c9655b", func := "varve/varvelaw08.KmvGrows", spec := "kmvGrows", recurses := true, named := ["math/bits.divideError", "math/bits.overflowError"], apart := false, narrowed := true }
def KmvGrowsUptoSaid : Prop := kmvGrowsUptoRow.holds Try.pinned (OpenSpec.upto kmvGrowsSpec)

/-- 'varvelaw10.PairOf', WHERE WHAT IT READS IS OF BULK AT MOST 1048576: true; the input reads as it did. -/
def pairOfUptoRow : OpenClaim := { program := "ytpjchgiemmnikaa", sum := "625d1a370d507d91bbc1b608c5a8231b08a2ab9e1b95531a941e11a933c9655b", func := "varve/varvelaw10.PairOf", spec := "pairOf", inPlace := ["math/bits.Add64", "math.Float64frombits"], recurses := true, apart := false, narrowed := true }
def PairOfUptoSaid : Prop := pairOfUptoRow.holds Try.pinned (OpenSpec.upto pairOfSpec)

/-- 'varvelaw08.KmvBytes', WHERE WHAT IT READS IS OF BULK AT MOST 1048576: true; the input reads as it did. -/
def kmvBytesUptoRow : OpenClaim := { program := "ytpjchgiemmnikaa", sum := "625d1a370d507d91bbc1b608c5a8231b08a2ab9e1b95531a941e11a933c9655b", func := "varve/varvelaw08.KmvBytes", spec := "kmvBytes", recurses := true, named := ["math/bits.divideError", "math/bits.overflowError"], apart := false, narrowed := true }
def KmvBytesUptoSaid : Prop := kmvBytesUptoRow.holds Try.pinned (OpenSpec.upto kmvBytesSpec)

/-- 'varvelaw10.PairChecks', WHERE WHAT IT READS IS OF BULK AT MOST 1048576: true; the input reads as it did. -/
def pairChecksUptoRow : OpenClaim := { program := "ytpjchgiemmnikaa", sum := "625d1a370d507d91bbc1b608c5a8231b08a2ab9e1b95531a941e11a933c9655b", func := "varve/varvelaw10.PairChecks", spec := "pairChecks", inPlace := ["math.Float64frombits", "math/bits.Add64"], recurses := true, apart := false, narrowed := true }
def PairChecksUptoSaid : Prop := pairChecksUptoRow.holds Try.pinned (OpenSpec.upto pairChecksSpec)

/-- 'varvelaw10.PairSums', WHERE WHAT IT READS IS OF BULK AT MOST 1048576: true; the input reads as it did. -/
def pairSumsUptoRow : OpenClaim := { program := "ytpjchgiemmnikaa", sum := "625d1a370d507d91bbc1b608c5a8231b08a2ab9e1b95531a941e11a933c9655b", func := "varve/varvelaw10.PairSums", spec := "pairSums", inPlace := ["math/bits.Add64", "math.Float64frombits"], recurses := true, apart := false, narrowed := true }
def PairSumsUptoSaid : Prop := pairSumsUptoRow.holds Try.pinned (OpenSpec.upto pairSumsSpec)

/-- 'varvelaw10.PairMerges', WHERE WHAT IT READS IS OF BULK AT MOST 1048576: true; the input reads as it did. -/
def pairMergesUptoRow : OpenClaim := { program := "ytpjchgiemmnikaa", sum := "625d1a370d507d91bbc1b608c5a8231b08a2ab9e1b95531a941e11a933c9655b", func := "varve/varvelaw10.PairMerges", spec := "pairMerges", inPlace := ["math.Float64frombits", "math/bits.Add64"], recurses := true, apart := false, narrowed := true }
def PairMergesUptoSaid : Prop := pairMergesUptoRow.holds Try.pinned (OpenSpec.upto pairMergesSpec)

/-- 'varvelaw10.PairOwn', WHERE WHAT IT READS IS OF BULK AT MOST 1048576: true; the input reads as it did. -/
def pairOwnUptoRow : OpenClaim := { program := "ytpjchgiemmnikaa", sum := "625d1a370d507d91bbc1b608c5a8231b08a2ab9e1b95531a941e11a933c9655b", func := "varve/varvelaw10.PairOwn", spec := "pairOwn", inPlace := ["math/bits.Add64", "math.Float64frombits"], recurses := true, apart := false, narrowed := true }
def PairOwnUptoSaid : Prop := pairOwnUptoRow.holds Try.pinned (OpenSpec.upto pairOwnSpec)

/-- 'varvelaw10.PairParts', WHERE WHAT IT READS IS OF BULK AT MOST 1048576: true; the input reads as it did. -/
def pairPartsUptoRow : OpenClaim := { program := "ytpjchgiemmnikaa", sum := "625d1a370d507d91bbc1b608c5a8231b08a2ab9e1b95531a941e11a933c9655b", func := "varve/varvelaw10.PairParts", spec := "pairParts", inPlace := ["math/bits.Add64", "math.Float64frombits"], recurses := true, apart := false, narrowed := true }
def PairPartsUptoSaid : Prop := pairPartsUptoRow.holds Try.pinned (OpenSpec.upto pairPartsSpec)

/-- 'varvelaw10.PairZero', WHERE WHAT IT READS IS OF BULK AT MOST 1048576: true; the input reads as it did. -/
def pairZeroUptoRow : OpenClaim := { program := "ytpjchgiemmnikaa", sum := "625d1a370d507d91bbc1b608c5a8231b08a2ab9e1b95531a941e11a933c9655b", func := "varve/varvelaw10.PairZero", spec := "pairZero", inPlace := ["math/bits.Add64", "math.Float64frombits"], recurses := true, apart := false, narrowed := true }
def PairZeroUptoSaid : Prop := pairZeroUptoRow.holds Try.pinned (OpenSpec.upto pairZeroSpec)

/-- 'varvelaw10.PairTurns', WHERE WHAT IT READS IS OF BULK AT MOST 1048576: true; the input reads as it did. -/
def pairTurnsUptoRow : OpenClaim := { program := "ytpjchgiemmnikaa", sum := "625d1a370d507d91bbc1b608c5a8231b08a2ab9e1b95531a941e11a933c9655b", func := "varve/varvelaw10.PairTurns", spec := "pairTurns", inPlace := ["math/bits.Add64", "math.Float64frombits"], recurses := true, apart := false, narrowed := true }
def PairTurnsUptoSaid : Prop := pairTurnsUptoRow.holds Try.pinned (OpenSpec.upto pairTurnsSpec)

/-- 'varvelaw10.PairBytes', WHERE WHAT IT READS IS OF BULK AT MOST 1048576: true; the input reads as it did. -/
def pairBytesUptoRow : OpenClaim := { program := "ytpjchgiemmnikaa", sum := "625d1a370d507d91bbc1b608c5a8231b08a2ab9e1b95531a941e11a933c9655b", func := "varve/varvelaw10.PairBytes", spec := "pairBytes", inPlace := ["math.Float64frombits", "math/bits.Add64"], recurses := true, apart := false, narrowed := true }
def PairBytesUptoSaid : Prop := pairBytesUptoRow.holds Try.pinned (OpenSpec.upto pairBytesSpec)

end Rows
end Go.Proofs.Ytpjchgiemmnikaa
