/-
  No cell of these rows narrows 'for every input' (looked for: loops, veiled, ifaces, maps, wideKeys, modest, calm, conditions, laid).
  DERIVED. THE GIVEN ROWS OF THIS SEAT. 14 by the template 'for every input the law returns true; each argument reads behind the call as it read before'; 0 by the template 'total and deterministic' (their statements: YtmhejpcbgknncaaTotals.lean).
  GIVEN WITH THE SEED: the statements are not yours to turn. If you find one false, say at which input.
  Laid BY PROGRAM, IN A SANDBOX (cutbox-rows.mjs): the forced cells as the released guide's own fill.sh prints them over the translation 08f1b3215f52e848… (all of the seat's roots in one cut). By AI agents, Wed Nov 11 2026. No macro, syntax, notation, axiom, sorry.
-/
import Derived.Test.YtmhejpcbgknncaaChecked
import GoSem.Claim
import GoSem.ClaimJoined
import GoSem.ClaimMapViews
import Derived.JoinedTies
import Derived.KernelRfl
namespace Go.Proofs.Ytmhejpcbgknncaa
/- THE CELL 'sum', in the pinned program and in every row, IS THE sha256 OF THE DUMP (.gsa) THAT YtmhejpcbgknncaaProg.lean LOADS. Nothing in Lean hashes anything: it is a label: what it is worth is what the hold of that sum in a sandbox is worth. -/
noncomputable def Try.pinned : Pinned := { name := "ytmhejpcbgknncaa", sum := "08f1b3215f52e8484ef8af5095216d970d132afb5ec2b8fe1569fb4b2efbae63", checked := Try.checked }
namespace Rows
def none {H : Type} : Left H := { results := [], args := [] }

/-- 'varvelaw07.HistBuckets': WHATEVER THE INPUT: true; the input reads as it did. -/
def histBucketsSpec : ChangeSpec := { name := "histBuckets", fn := fun _ => fun
  | [d1, d2] => { results := [.lit (.bool true)], args := [d1, d2] }
  | _ => none }
def histBucketsRow : OpenClaim := { program := "ytmhejpcbgknncaa", sum := "08f1b3215f52e8484ef8af5095216d970d132afb5ec2b8fe1569fb4b2efbae63", func := "varve/varvelaw07.HistBuckets", spec := "histBuckets", inPlace := ["math/bits.Add64"], named := ["math/bits.divideError", "math/bits.overflowError"], apart := false }
def HistBucketsSaid : Prop := histBucketsRow.holds Try.pinned (OpenSpec.ofChange histBucketsSpec)

/-- ITS FALSE NEIGHBOUR: 'it returns false'. Refute it at one input. -/
def histBucketsWrong : ChangeSpec := { name := "histBuckets", fn := fun _ => fun
  | [d1, d2] => { results := [.lit (.bool false)], args := [d1, d2] }
  | _ => none }
def HistBucketsWrongFalsely : Prop := histBucketsRow.holds Try.pinned (OpenSpec.ofChange histBucketsWrong)

/-- 'varvelaw07.HistNear': WHATEVER THE INPUT: true; the input reads as it did. -/
def histNearSpec : ChangeSpec := { name := "histNear", fn := fun _ => fun
  | [d1, d2] => { results := [.lit (.bool true)], args := [d1, d2] }
  | _ => none }
def histNearRow : OpenClaim := { program := "ytmhejpcbgknncaa", sum := "08f1b3215f52e8484ef8af5095216d970d132afb5ec2b8fe1569fb4b2efbae63", func := "varve/varvelaw07.HistNear", spec := "histNear", inPlace := ["math/bits.Add64"], named := ["math/bits.divideError", "math/bits.overflowError"], apart := false }
def HistNearSaid : Prop := histNearRow.holds Try.pinned (OpenSpec.ofChange histNearSpec)

/-- ITS FALSE NEIGHBOUR: 'it returns false'. Refute it at one input. -/
def histNearWrong : ChangeSpec := { name := "histNear", fn := fun _ => fun
  | [d1, d2] => { results := [.lit (.bool false)], args := [d1, d2] }
  | _ => none }
def HistNearWrongFalsely : Prop := histNearRow.holds Try.pinned (OpenSpec.ofChange histNearWrong)

/-- 'varvelaw07.HistTrue': WHATEVER THE INPUT: true; the input reads as it did. -/
def histTrueSpec : ChangeSpec := { name := "histTrue", fn := fun _ => fun
  | [d1, d2, d3] => { results := [.lit (.bool true)], args := [d1, d2, d3] }
  | _ => none }
def histTrueRow : OpenClaim := { program := "ytmhejpcbgknncaa", sum := "08f1b3215f52e8484ef8af5095216d970d132afb5ec2b8fe1569fb4b2efbae63", func := "varve/varvelaw07.HistTrue", spec := "histTrue", inPlace := ["math/bits.Add64"], named := ["math/bits.divideError", "math/bits.overflowError"], apart := false }
def HistTrueSaid : Prop := histTrueRow.holds Try.pinned (OpenSpec.ofChange histTrueSpec)

/-- ITS FALSE NEIGHBOUR: 'it returns false'. Refute it at one input. -/
def histTrueWrong : ChangeSpec := { name := "histTrue", fn := fun _ => fun
  | [d1, d2, d3] => { results := [.lit (.bool false)], args := [d1, d2, d3] }
  | _ => none }
def HistTrueWrongFalsely : Prop := histTrueRow.holds Try.pinned (OpenSpec.ofChange histTrueWrong)

/-- 'varvelaw07.HistHeld': WHATEVER THE INPUT: true; the input reads as it did. -/
def histHeldSpec : ChangeSpec := { name := "histHeld", fn := fun _ => fun
  | [d1, d2, d3, d4] => { results := [.lit (.bool true)], args := [d1, d2, d3, d4] }
  | _ => none }
def histHeldRow : OpenClaim := { program := "ytmhejpcbgknncaa", sum := "08f1b3215f52e8484ef8af5095216d970d132afb5ec2b8fe1569fb4b2efbae63", func := "varve/varvelaw07.HistHeld", spec := "histHeld", inPlace := ["math/bits.Add64"], named := ["math/bits.divideError", "math/bits.overflowError"], apart := false }
def HistHeldSaid : Prop := histHeldRow.holds Try.pinned (OpenSpec.ofChange histHeldSpec)

/-- ITS FALSE NEIGHBOUR: 'it returns false'. Refute it at one input. -/
def histHeldWrong : ChangeSpec := { name := "histHeld", fn := fun _ => fun
  | [d1, d2, d3, d4] => { results := [.lit (.bool false)], args := [d1, d2, d3, d4] }
  | _ => none }
def HistHeldWrongFalsely : Prop := histHeldRow.holds Try.pinned (OpenSpec.ofChange histHeldWrong)

/-- 'varvelaw07.HistChecks': WHATEVER THE INPUT: true; the input reads as it did. -/
def histChecksSpec : ChangeSpec := { name := "histChecks", fn := fun _ => fun
  | [d] => { results := [.lit (.bool true)], args := [d] }
  | _ => none }
def histChecksRow : OpenClaim := { program := "ytmhejpcbgknncaa", sum := "08f1b3215f52e8484ef8af5095216d970d132afb5ec2b8fe1569fb4b2efbae63", func := "varve/varvelaw07.HistChecks", spec := "histChecks", inPlace := ["math/bits.Add64"], named := ["math/bits.divideError", "math/bits.overflowError"], apart := false }
def HistChecksSaid : Prop := histChecksRow.holds Try.pinned (OpenSpec.ofChange histChecksSpec)

/-- ITS FALSE NEIGHBOUR: 'it returns false'. Refute it at one input. -/
def histChecksWrong : ChangeSpec := { name := "histChecks", fn := fun _ => fun
  | [d] => { results := [.lit (.bool false)], args := [d] }
  | _ => none }
def HistChecksWrongFalsely : Prop := histChecksRow.holds Try.pinned (OpenSpec.ofChange histChecksWrong)

/-- 'varvelaw07.HistTimes': WHATEVER THE INPUT: true; the input reads as it did. -/
def histTimesSpec : ChangeSpec := { name := "histTimes", fn := fun _ => fun
  | [d1, d2, d3] => { results := [.lit (.bool true)], args := [d1, d2, d3] }
  | _ => none }
def histTimesRow : OpenClaim := { program := "ytmhejpcbgknncaa", sum := "08f1b3215f52e8484ef8af5095216d970d132afb5ec2b8fe1569fb4b2efbae63", func := "varve/varvelaw07.HistTimes", spec := "histTimes", inPlace := ["math/bits.Add64"], named := ["math/bits.divideError", "math/bits.overflowError"], apart := false }
def HistTimesSaid : Prop := histTimesRow.holds Try.pinned (OpenSpec.ofChange histTimesSpec)

/-- ITS FALSE NEIGHBOUR: 'it returns false'. Refute it at one input. -/
def histTimesWrong : ChangeSpec := { name := "histTimes", fn := fun _ => fun
  | [d1, d2, d3] => { results := [.lit (.bool false)], args := [d1, d2, d3] }
  | _ => none }
def HistTimesWrongFalsely : Prop := histTimesRow.holds Try.pinned (OpenSpec.ofChange histTimesWrong)

/-- 'varvelaw07.HistRises': WHATEVER THE INPUT: true; the input reads as it did. -/
def histRisesSpec : ChangeSpec := { name := "histRises", fn := fun _ => fun
  | [d1, d2, d3, d4] => { results := [.lit (.bool true)], args := [d1, d2, d3, d4] }
  | _ => none }
def histRisesRow : OpenClaim := { program := "ytmhejpcbgknncaa", sum := "08f1b3215f52e8484ef8af5095216d970d132afb5ec2b8fe1569fb4b2efbae63", func := "varve/varvelaw07.HistRises", spec := "histRises", inPlace := ["math/bits.Add64"], named := ["math/bits.divideError", "math/bits.overflowError"], apart := false }
def HistRisesSaid : Prop := histRisesRow.holds Try.pinned (OpenSpec.ofChange histRisesSpec)

/-- ITS FALSE NEIGHBOUR: 'it returns false'. Refute it at one input. -/
def histRisesWrong : ChangeSpec := { name := "histRises", fn := fun _ => fun
  | [d1, d2, d3, d4] => { results := [.lit (.bool false)], args := [d1, d2, d3, d4] }
  | _ => none }
def HistRisesWrongFalsely : Prop := histRisesRow.holds Try.pinned (OpenSpec.ofChange histRisesWrong)

/-- 'varvelaw07.HistRanks': WHATEVER THE INPUT: true; the input reads as it did. -/
def histRanksSpec : ChangeSpec := { name := "histRanks", fn := fun _ => fun
  | [d1, d2, d3] => { results := [.lit (.bool true)], args := [d1, d2, d3] }
  | _ => none }
def histRanksRow : OpenClaim := { program := "ytmhejpcbgknncaa", sum := "08f1b3215f52e8484ef8af5095216d970d132afb5ec2b8fe1569fb4b2efbae63", func := "varve/varvelaw07.HistRanks", spec := "histRanks", inPlace := ["math/bits.Add64"], named := ["math/bits.divideError", "math/bits.overflowError"], apart := false }
def HistRanksSaid : Prop := histRanksRow.holds Try.pinned (OpenSpec.ofChange histRanksSpec)

/-- ITS FALSE NEIGHBOUR: 'it returns false'. Refute it at one input. -/
def histRanksWrong : ChangeSpec := { name := "histRanks", fn := fun _ => fun
  | [d1, d2, d3] => { results := [.lit (.bool false)], args := [d1, d2, d3] }
  | _ => none }
def HistRanksWrongFalsely : Prop := histRanksRow.holds Try.pinned (OpenSpec.ofChange histRanksWrong)

/-- 'varvelaw07.HistSplit': WHATEVER THE INPUT: true; the input reads as it did. -/
def histSplitSpec : ChangeSpec := { name := "histSplit", fn := fun _ => fun
  | [d1, d2] => { results := [.lit (.bool true)], args := [d1, d2] }
  | _ => none }
def histSplitRow : OpenClaim := { program := "ytmhejpcbgknncaa", sum := "08f1b3215f52e8484ef8af5095216d970d132afb5ec2b8fe1569fb4b2efbae63", func := "varve/varvelaw07.HistSplit", spec := "histSplit", inPlace := ["math/bits.Add64"], named := ["math/bits.divideError", "math/bits.overflowError"], apart := false }
def HistSplitSaid : Prop := histSplitRow.holds Try.pinned (OpenSpec.ofChange histSplitSpec)

/-- ITS FALSE NEIGHBOUR: 'it returns false'. Refute it at one input. -/
def histSplitWrong : ChangeSpec := { name := "histSplit", fn := fun _ => fun
  | [d1, d2] => { results := [.lit (.bool false)], args := [d1, d2] }
  | _ => none }
def HistSplitWrongFalsely : Prop := histSplitRow.holds Try.pinned (OpenSpec.ofChange histSplitWrong)

/-- 'varvelaw07.HistTurns': WHATEVER THE INPUT: true; the input reads as it did. -/
def histTurnsSpec : ChangeSpec := { name := "histTurns", fn := fun _ => fun
  | [d1, d2, d3] => { results := [.lit (.bool true)], args := [d1, d2, d3] }
  | _ => none }
def histTurnsRow : OpenClaim := { program := "ytmhejpcbgknncaa", sum := "08f1b3215f52e8484ef8af5095216d970d132afb5ec2b8fe1569fb4b2efbae63", func := "varve/varvelaw07.HistTurns", spec := "histTurns", inPlace := ["math/bits.Add64"], named := ["math/bits.divideError", "math/bits.overflowError"], apart := false }
def HistTurnsSaid : Prop := histTurnsRow.holds Try.pinned (OpenSpec.ofChange histTurnsSpec)

/-- ITS FALSE NEIGHBOUR: 'it returns false'. Refute it at one input. -/
def histTurnsWrong : ChangeSpec := { name := "histTurns", fn := fun _ => fun
  | [d1, d2, d3] => { results := [.lit (.bool false)], args := [d1, d2, d3] }
  | _ => none }
def HistTurnsWrongFalsely : Prop := histTurnsRow.holds Try.pinned (OpenSpec.ofChange histTurnsWrong)

/-- 'varvelaw07.HistPlays': WHATEVER THE INPUT: true; the input reads as it did. -/
def histPlaysSpec : ChangeSpec := { name := "histPlays", fn := fun _ => fun
  | [d1, d2] => { results := [.lit (.bool true)], args := [d1, d2] }
  | _ => none }
def histPlaysRow : OpenClaim := { program := "ytmhejpcbgknncaa", sum := "08f1b3215f52e8484ef8af5095216d970d132afb5ec2b8fe1569fb4b2efbae63", func := "varve/varvelaw07.HistPlays", spec := "histPlays", inPlace := ["math/bits.Add64"], named := ["math/bits.divideError", "math/bits.overflowError"], apart := false }
def HistPlaysSaid : Prop := histPlaysRow.holds Try.pinned (OpenSpec.ofChange histPlaysSpec)

/-- ITS FALSE NEIGHBOUR: 'it returns false'. Refute it at one input. -/
def histPlaysWrong : ChangeSpec := { name := "histPlays", fn := fun _ => fun
  | [d1, d2] => { results := [.lit (.bool false)], args := [d1, d2] }
  | _ => none }
def HistPlaysWrongFalsely : Prop := histPlaysRow.holds Try.pinned (OpenSpec.ofChange histPlaysWrong)

/-- 'varvelaw07.HistReads': WHATEVER THE INPUT: true; the input reads as it did. -/
def histReadsSpec : ChangeSpec := { name := "histReads", fn := fun _ => fun
  | [d1, d2] => { results := [.lit (.bool true)], args := [d1, d2] }
  | _ => none }
def histReadsRow : OpenClaim := { program := "ytmhejpcbgknncaa", sum := "08f1b3215f52e8484ef8af5095216d970d132afb5ec2b8fe1569fb4b2efbae63", func := "varve/varvelaw07.HistReads", spec := "histReads", inPlace := ["math/bits.Add64"], named := ["math/bits.divideError", "math/bits.overflowError"], apart := false }
def HistReadsSaid : Prop := histReadsRow.holds Try.pinned (OpenSpec.ofChange histReadsSpec)

/-- ITS FALSE NEIGHBOUR: 'it returns false'. Refute it at one input. -/
def histReadsWrong : ChangeSpec := { name := "histReads", fn := fun _ => fun
  | [d1, d2] => { results := [.lit (.bool false)], args := [d1, d2] }
  | _ => none }
def HistReadsWrongFalsely : Prop := histReadsRow.holds Try.pinned (OpenSpec.ofChange histReadsWrong)

/-- 'varvelaw07.HistBytes': WHATEVER THE INPUT: true; the input reads as it did. -/
def histBytesSpec : ChangeSpec := { name := "histBytes", fn := fun _ => fun
  | [d1, d2] => { results := [.lit (.bool true)], args := [d1, d2] }
  | _ => none }
def histBytesRow : OpenClaim := { program := "ytmhejpcbgknncaa", sum := "08f1b3215f52e8484ef8af5095216d970d132afb5ec2b8fe1569fb4b2efbae63", func := "varve/varvelaw07.HistBytes", spec := "histBytes", inPlace := ["math/bits.Add64"], named := ["math/bits.divideError", "math/bits.overflowError"], apart := false }
def HistBytesSaid : Prop := histBytesRow.holds Try.pinned (OpenSpec.ofChange histBytesSpec)

/-- ITS FALSE NEIGHBOUR: 'it returns false'. Refute it at one input. -/
def histBytesWrong : ChangeSpec := { name := "histBytes", fn := fun _ => fun
  | [d1, d2] => { results := [.lit (.bool false)], args := [d1, d2] }
  | _ => none }
def HistBytesWrongFalsely : Prop := histBytesRow.holds Try.pinned (OpenSpec.ofChange histBytesWrong)

/-- 'varvelaw07.HistForms': WHATEVER THE INPUT: true; the input reads as it did. -/
def histFormsSpec : ChangeSpec := { name := "histForms", fn := fun _ => fun
  | [d] => { results := [.lit (.bool true)], args := [d] }
  | _ => none }
def histFormsRow : OpenClaim := { program := "ytmhejpcbgknncaa", sum := "08f1b3215f52e8484ef8af5095216d970d132afb5ec2b8fe1569fb4b2efbae63", func := "varve/varvelaw07.HistForms", spec := "histForms", inPlace := ["math/bits.Add64"], named := ["math/bits.divideError", "math/bits.overflowError"], apart := false }
def HistFormsSaid : Prop := histFormsRow.holds Try.pinned (OpenSpec.ofChange histFormsSpec)

/-- ITS FALSE NEIGHBOUR: 'it returns false'. Refute it at one input. -/
def histFormsWrong : ChangeSpec := { name := "histForms", fn := fun _ => fun
  | [d] => { results := [.lit (.bool false)], args := [d] }
  | _ => none }
def HistFormsWrongFalsely : Prop := histFormsRow.holds Try.pinned (OpenSpec.ofChange histFormsWrong)

/- THE SECOND FORM. 'bulk': how many values and letters a reading holds, each counted each time it is reached (what is shared counts as often as it is met; a slice's spare places count too). A statement '..UptoSaid' is the law's where the arguments, and the package variables that the reading takes, are together of bulk at most 1048576: NARROWER than '..Said'. Prove '..Said' where nothing that the law and all that it calls make is longer than what came in: it says more and counts as full. Else prove '..UptoSaid'. A law counts once. -/
mutual
def uptoBulk {H : Type} : DataW H → Nat
  | .lit (.string bytes) => bytes.length + 1
  | .lit _ => 1
  | .nil => 1
  | .ptr d => uptoBulk d + 1
  | .slice elems spare => uptoBulkAll elems + uptoBulkAll spare + 1
  | .agg parts => uptoBulkAll parts + 1
  | .iface _ d => uptoBulk d + 1
  | .map entries => uptoBulkEntries entries + 1
  | .held _ => 1
def uptoBulkAll {H : Type} : List (DataW H) → Nat
  | [] => 0
  | d :: r => uptoBulk d + uptoBulkAll r
def uptoBulkEntries {H : Type} : List (Lit × DataW H) → Nat
  | [] => 0
  | x :: r => uptoBulkEntry x + uptoBulkEntries r
def uptoBulkEntry {H : Type} : Lit × DataW H → Nat
  | (.string bytes, d) => bytes.length + uptoBulk d + 1
  | (_, d) => uptoBulk d + 1
 end
def uptoSmall : (H : Type) → List (DataW H) → Bool := fun _ ds => decide (uptoBulkAll ds ≤ 1048576)
def OpenSpec.upto (s : _root_.Go.ChangeSpec) : _root_.Go.OpenSpec := { _root_.Go.OpenSpec.ofChange s with cond := some uptoSmall }

/-- 'varvelaw07.HistBuckets', WHERE WHAT IT READS IS OF BULK AT MOST 1048576: true; the input reads as it did. -/
def histBucketsUptoRow : OpenClaim := { program := "ytmhejpcbgknncaa", sum := "08f1b3215f52e8484ef8af5095216d970d132afb5ec2b8fe1569fb4b2efbae63", func := "varve/varvelaw07.HistBuckets", spec := "histBuckets", inPlace := ["math/bits.Add64"], named := ["math/bits.divideError", "math/bits.overflowError"], apart := false, narrowed := true }
def HistBucketsUptoSaid : Prop := histBucketsUptoRow.holds Try.pinned (OpenSpec.upto histBucketsSpec)

/-- 'varvelaw07.HistNear', WHERE WHAT IT READS IS OF BULK AT MOST 1048576: true; the input reads as it did. -/
def histNearUptoRow : OpenClaim := { program := "ytmhejpcbgknncaa", sum := "08f1b3215f52e8484ef8af5095216d970d132afb5ec2b8fe1569fb4b2efbae63", func := "varve/varvelaw07.HistNear", spec := "histNear", inPlace := ["math/bits.Add64"], named := ["math/bits.divideError", "math/bits.overflowError"], apart := false, narrowed := true }
def HistNearUptoSaid : Prop := histNearUptoRow.holds Try.pinned (OpenSpec.upto histNearSpec)

/-- 'varvelaw07.HistTrue', WHERE WHAT IT READS IS OF BULK AT MOST 1048576: true; the input reads as it did. -/
def histTrueUptoRow : OpenClaim := { program := "ytmhejpcbgknncaa", sum := "08f1b3215f52e8484ef8af5095216d970d132afb5ec2b8fe1569fb4b2efbae63", func := "varve/varvelaw07.HistTrue", spec := "histTrue", inPlace := ["math/bits.Add64"], named := ["math/bits.divideError", "math/bits.overflowError"], apart := false, narrowed := true }
def HistTrueUptoSaid : Prop := histTrueUptoRow.holds Try.pinned (OpenSpec.upto histTrueSpec)

/-- 'varvelaw07.HistHeld', WHERE WHAT IT READS IS OF BULK AT MOST 1048576: true; the input reads as it did. -/
def histHeldUptoRow : OpenClaim := { program := "ytmhejpcbgknncaa", sum := "08f1b3215f52e8484ef8af5095216d970d132afb5ec2b8fe1569fb4b2efbae63", func := "varve/varvelaw07.HistHeld", spec := "histHeld", inPlace := ["math/bits.Add64"], named := ["math/bits.divideError", "math/bits.overflowError"], apart := false, narrowed := true }
def HistHeldUptoSaid : Prop := histHeldUptoRow.holds Try.pinned (OpenSpec.upto histHeldSpec)

/-- 'varvelaw07.HistChecks', WHERE WHAT IT READS IS OF BULK AT MOST 1048576: true; the input reads as it did. -/
def histChecksUptoRow : OpenClaim := { program := "ytmhejpcbgknncaa", sum := "08f1b3215f52e8484ef8af5095216d970d132afb5ec2b8fe1569fb4b2efbae63", func := "varve/varvelaw07.HistChecks", spec := "histChecks", inPlace := ["math/bits.Add64"], named := ["math/bits.divideError", "math/bits.overflowError"], apart := false, narrowed := true }
def HistChecksUptoSaid : Prop := histChecksUptoRow.holds Try.pinned (OpenSpec.upto histChecksSpec)

/-- 'varvelaw07.HistTimes', WHERE WHAT IT READS IS OF BULK AT MOST 1048576: true; the input reads as it did. -/
def histTimesUptoRow : OpenClaim := { program := "ytmhejpcbgknncaa", sum := "08f1b3215f52e8484ef8af5095216d970d132afb5ec2b8fe1569fb4b2efbae63", func := "varve/varvelaw07.HistTimes", spec := "histTimes", inPlace := ["math/bits.Add64"], named := ["math/bits.divideError", "math/bits.overflowError"], apart := false, narrowed := true }
def HistTimesUptoSaid : Prop := histTimesUptoRow.holds Try.pinned (OpenSpec.upto histTimesSpec)

/-- 'varvelaw07.HistRises', WHERE WHAT IT READS IS OF BULK AT MOST 1048576: true; the input reads as it did. -/
def histRisesUptoRow : OpenClaim := { program := "ytmhejpcbgknncaa", sum := "08f1b3215f52e8484ef8af5095216d970d132afb5ec2b8fe1569fb4b2efbae63", func := "varve/varvelaw07.HistRises", spec := "histRises", inPlace := ["math/bits.Add64"], named := ["math/bits.divideError", "math/bits.overflowError"], apart := false, narrowed := true }
def HistRisesUptoSaid : Prop := histRisesUptoRow.holds Try.pinned (OpenSpec.upto histRisesSpec)

/-- 'varvelaw07.HistRanks', WHERE WHAT IT READS IS OF BULK AT MOST 1048576: true; the input reads as it did. -/
def histRanksUptoRow : OpenClaim := { program := "ytmhejpcbgknncaa", sum := "08f1b3215f52e8484ef8af5095216d970d132afb5ec2b8fe1569fb4b2efbae63", func := "varve/varvelaw07.HistRanks", spec := "histRanks", inPlace := ["math/bits.Add64"], named := ["math/bits.divideError", "math/bits.overflowError"], apart := false, narrowed := true }
def HistRanksUptoSaid : Prop := histRanksUptoRow.holds Try.pinned (OpenSpec.upto histRanksSpec)

/-- 'varvelaw07.HistSplit', WHERE WHAT IT READS IS OF BULK AT MOST 1048576: true; the input reads as it did. -/
def histSplitUptoRow : OpenClaim := { program := "ytmhejpcbgknncaa", sum := "08f1b3215f52e8484ef8af5095216d970d132afb5ec2b8fe1569fb4b2efbae63", func := "varve/varvelaw07.HistSplit", spec := "histSplit", inPlace := ["math/bits.Add64"], named := ["math/bits.divideError", "math/bits.overflowError"], apart := false, narrowed := true }
def HistSplitUptoSaid : Prop := histSplitUptoRow.holds Try.pinned (OpenSpec.upto histSplitSpec)

/-- 'varvelaw07.HistTurns', WHERE WHAT IT READS IS OF BULK AT MOST 1048576: true; the input reads as it did. -/
def histTurnsUptoRow : OpenClaim := { program := "ytmhejpcbgknncaa", sum := "08f1b3215f52e8484ef8af5095216d970d132afb5ec2b8fe1569fb4b2efbae63", func := "varve/varvelaw07.HistTurns", spec := "histTurns", inPlace := ["math/bits.Add64"], named := ["math/bits.divideError", "math/bits.overflowError"], apart := false, narrowed := true }
def HistTurnsUptoSaid : Prop := histTurnsUptoRow.holds Try.pinned (OpenSpec.upto histTurnsSpec)

/-- 'varvelaw07.HistPlays', WHERE WHAT IT READS IS OF BULK AT MOST 1048576: true; the input reads as it did. -/
def histPlaysUptoRow : OpenClaim := { program := "ytmhejpcbgknncaa", sum := "08f1b3215f52e8484ef8af5095216d970d132afb5ec2b8fe1569fb4b2efbae63", func := "varve/varvelaw07.HistPlays", spec := "histPlays", inPlace := ["math/bits.Add64"], named := ["math/bits.divideError", "math/bits.overflowError"], apart := false, narrowed := true }
def HistPlaysUptoSaid : Prop := histPlaysUptoRow.holds Try.pinned (OpenSpec.upto histPlaysSpec)

/-- 'varvelaw07.HistReads', WHERE WHAT IT READS IS OF BULK AT MOST 1048576: true; the input reads as it did. -/
def histReadsUptoRow : OpenClaim := { program := "ytmhejpcbgknncaa", sum := "08f1b3215f52e8484ef8af5095216d970d132afb5ec2b8fe1569fb4b2efbae63", func := "varve/varvelaw07.HistReads", spec := "histReads", inPlace := ["math/bits.Add64"], named := ["math/bits.divideError", "math/bits.overflowError"], apart := false, narrowed := true }
def HistReadsUptoSaid : Prop := histReadsUptoRow.holds Try.pinned (OpenSpec.upto histReadsSpec)

/-- 'varvelaw07.HistBytes', WHERE WHAT IT READS IS OF BULK AT MOST 1048576: true; the input reads as it did. -/
def histBytesUptoRow : OpenClaim := { program := "ytmhejpcbgknncaa", sum := "08f1b3215f52e8484ef8af5095216d970d132afb5ec2b8fe1569fb4b2efbae63", func := "varve/varvelaw07.HistBytes", spec := "histBytes", inPlace := ["math/bits.Add64"], named := ["math/bits.divideError", "math/bits.overflowError"], apart := false, narrowed := true }
def HistBytesUptoSaid : Prop := histBytesUptoRow.holds Try.pinned (OpenSpec.upto histBytesSpec)

/-- 'varvelaw07.HistForms', WHERE WHAT IT READS IS OF BULK AT MOST 1048576: true; the input reads as it did. -/
def histFormsUptoRow : OpenClaim := { program := "ytmhejpcbgknncaa", sum := "08f1b3215f52e8484ef8af5095216d970d132afb5ec2b8fe1569fb4b2efbae63", func := "varve/varvelaw07.HistForms", spec := "histForms", inPlace := ["math/bits.Add64"], named := ["math/bits.divideError", "math/bits.overflowError"], apart := false, narrowed := true }
def HistFormsUptoSaid : Prop := histFormsUptoRow.holds Try.pinned (OpenSpec.upto histFormsSpec)

end Rows
end Go.Proofs.Ytmhejpcbgknncaa
