/-
  No cell of these rows narrows 'for every input' (looked for: loops, veiled, ifaces, maps, wideKeys, modest, calm, conditions, laid).
  DERIVED. THE GIVEN ROWS OF THIS SEAT. 6 by the template 'for every input the law returns true; each argument reads behind the call as it read before'; 0 by the template 'total and deterministic' (their statements: YtplgffbfepnihaaTotals.lean).
  GIVEN WITH THE SEED: the statements are not yours to turn. If you find one false, say at which input.
  Laid BY PROGRAM, IN A SANDBOX (cutbox-rows.mjs): the forced cells as the released guide's own fill.sh prints them over the translation 6a0bfd9536a231b8… (all of the seat's roots in one cut). By AI agents, Wed Nov 11 2026. No macro, syntax, notation, axiom, sorry.
-/
import Derived.Test.YtplgffbfepnihaaChecked
import GoSem.Claim
import GoSem.ClaimJoined
import GoSem.ClaimMapViews
import Derived.JoinedTies
import Derived.KernelRfl
namespace Go.Proofs.Ytplgffbfepnihaa
/- THE CELL 'sum', in the pinned program and in every row, IS THE sha256 OF THE DUMP (.gsa) THAT YtplgffbfepnihaaProg.lean LOADS. Nothing in Lean hashes anything: it is a label: what it is worth is what the hold of that sum in a sandbox is worth. -/
noncomputable def Try.pinned : Pinned := { name := "ytplgffbfepnihaa", sum := "6a0bfd9536a231b888023bede7ca2bfee9c0f307d0599f77a18599720a74ebe3", checked := Try.checked }
namespace Rows
def none {H : Type} : Left H := { results := [], args := [] }

/-- 'varvelaw07.HistReads': WHATEVER THE INPUT: true; the input reads as it did. -/
def histReadsSpec : ChangeSpec := { name := "histReads", fn := fun _ => fun
  | [d1, d2] => { results := [.lit (.bool true)], args := [d1, d2] }
  | _ => none }
def histReadsRow : OpenClaim := { program := "ytplgffbfepnihaa", sum := "6a0bfd9536a231b888023bede7ca2bfee9c0f307d0599f77a18599720a74ebe3", func := "varve/varvelaw07.HistReads", spec := "histReads", inPlace := ["math/bits.Add64"], named := ["math/bits.divideError", "math/bits.overflowError"], apart := false }
def HistReadsSaid : Prop := histReadsRow.holds Try.pinned (OpenSpec.ofChange histReadsSpec)

/-- ITS FALSE NEIGHBOUR: 'it returns false'. Refute it at one input. -/
def histReadsWrong : ChangeSpec := { name := "histReads", fn := fun _ => fun
  | [d1, d2] => { results := [.lit (.bool false)], args := [d1, d2] }
  | _ => none }
def HistReadsWrongFalsely : Prop := histReadsRow.holds Try.pinned (OpenSpec.ofChange histReadsWrong)

/-- 'varvelaw07.HistBytes': WHATEVER THE INPUT: true; the input reads as it did. -/
def histBytesSpec : ChangeSpec := { name := "histBytes", fn := fun _ => fun
  | [d1, d2] => { results := [.lit (.bool true)], args := [d1, d2] }
  | _ => none }
def histBytesRow : OpenClaim := { program := "ytplgffbfepnihaa", sum := "6a0bfd9536a231b888023bede7ca2bfee9c0f307d0599f77a18599720a74ebe3", func := "varve/varvelaw07.HistBytes", spec := "histBytes", inPlace := ["math/bits.Add64"], named := ["math/bits.divideError", "math/bits.overflowError"], apart := false }
def HistBytesSaid : Prop := histBytesRow.holds Try.pinned (OpenSpec.ofChange histBytesSpec)

/-- ITS FALSE NEIGHBOUR: 'it returns false'. Refute it at one input. -/
def histBytesWrong : ChangeSpec := { name := "histBytes", fn := fun _ => fun
  | [d1, d2] => { results := [.lit (.bool false)], args := [d1, d2] }
  | _ => none }
def HistBytesWrongFalsely : Prop := histBytesRow.holds Try.pinned (OpenSpec.ofChange histBytesWrong)

/-- 'varvelaw07.HistForms': WHATEVER THE INPUT: true; the input reads as it did. -/
def histFormsSpec : ChangeSpec := { name := "histForms", fn := fun _ => fun
  | [d] => { results := [.lit (.bool true)], args := [d] }
  | _ => none }
def histFormsRow : OpenClaim := { program := "ytplgffbfepnihaa", sum := "6a0bfd9536a231b888023bede7ca2bfee9c0f307d0599f77a18599720a74ebe3", func := "varve/varvelaw07.HistForms", spec := "histForms", inPlace := ["math/bits.Add64"], named := ["math/bits.divideError", "math/bits.overflowError"], apart := false }
def HistFormsSaid : Prop := histFormsRow.holds Try.pinned (OpenSpec.ofChange histFormsSpec)

/-- ITS FALSE NEIGHBOUR: 'it returns false'. Refute it at one input. -/
def histFormsWrong : ChangeSpec := { name := "histForms", fn := fun _ => fun
  | [d] => { results := [.lit (.bool false)], args := [d] }
  | _ => none }
def HistFormsWrongFalsely : Prop := histFormsRow.holds Try.pinned (OpenSpec.ofChange histFormsWrong)

/-- 'varvelaw10.PairOf': WHATEVER THE INPUT: true; the input reads as it did. -/
def pairOfSpec : ChangeSpec := { name := "pairOf", fn := fun _ => fun
  | [d] => { results := [.lit (.bool true)], args := [d] }
  | _ => none }
def pairOfRow : OpenClaim := { program := "ytplgffbfepnihaa", sum := "6a0bfd9536a231b888023bede7ca2bfee9c0f307d0599f77a18599720a74ebe3", func := "varve/varvelaw10.PairOf", spec := "pairOf", inPlace := ["math/bits.Add64", "math.Float64frombits"], recurses := true, apart := false }
def PairOfSaid : Prop := pairOfRow.holds Try.pinned (OpenSpec.ofChange pairOfSpec)

/-- ITS FALSE NEIGHBOUR: 'it returns false'. Refute it at one input. -/
def pairOfWrong : ChangeSpec := { name := "pairOf", fn := fun _ => fun
  | [d] => { results := [.lit (.bool false)], args := [d] }
  | _ => none }
def PairOfWrongFalsely : Prop := pairOfRow.holds Try.pinned (OpenSpec.ofChange pairOfWrong)

/-- 'varvelaw08.KmvBytes': WHATEVER THE INPUT: true; the input reads as it did. -/
def kmvBytesSpec : ChangeSpec := { name := "kmvBytes", fn := fun _ => fun
  | [d1, d2, d3] => { results := [.lit (.bool true)], args := [d1, d2, d3] }
  | _ => none }
def kmvBytesRow : OpenClaim := { program := "ytplgffbfepnihaa", sum := "6a0bfd9536a231b888023bede7ca2bfee9c0f307d0599f77a18599720a74ebe3", func := "varve/varvelaw08.KmvBytes", spec := "kmvBytes", recurses := true, named := ["math/bits.divideError", "math/bits.overflowError"], apart := false }
def KmvBytesSaid : Prop := kmvBytesRow.holds Try.pinned (OpenSpec.ofChange kmvBytesSpec)

/-- ITS FALSE NEIGHBOUR: 'it returns false'. Refute it at one input. -/
def kmvBytesWrong : ChangeSpec := { name := "kmvBytes", fn := fun _ => fun
  | [d1, d2, d3] => { results := [.lit (.bool false)], args := [d1, d2, d3] }
  | _ => none }
def KmvBytesWrongFalsely : Prop := kmvBytesRow.holds Try.pinned (OpenSpec.ofChange kmvBytesWrong)

/-- 'varvelaw10.PairBytes': WHATEVER THE INPUT: true; the input reads as it did. -/
def pairBytesSpec : ChangeSpec := { name := "pairBytes", fn := fun _ => fun
  | [d1, d2, d3] => { results := [.lit (.bool true)], args := [d1, d2, d3] }
  | _ => none }
def pairBytesRow : OpenClaim := { program := "ytplgffbfepnihaa", sum := "6a0bfd9536a231b888023bede7ca2bfee9c0f307d0599f77a18599720a74ebe3", func := "varve/varvelaw10.PairBytes", spec := "pairBytes", inPlace := ["math.Float64frombits", "math/bits.Add64"], recurses := true, apart := false }
def PairBytesSaid : Prop := pairBytesRow.holds Try.pinned (OpenSpec.ofChange pairBytesSpec)

/-- ITS FALSE NEIGHBOUR: 'it returns false'. Refute it at one input. -/
def pairBytesWrong : ChangeSpec := { name := "pairBytes", fn := fun _ => fun
  | [d1, d2, d3] => { results := [.lit (.bool false)], args := [d1, d2, d3] }
  | _ => none }
def PairBytesWrongFalsely : Prop := pairBytesRow.holds Try.pinned (OpenSpec.ofChange pairBytesWrong)

/- THE SECOND FORM. 'bulk': how many values and letters a reading holds, each counted each time it is reached (what is shared counts as often as it is met; a slice's spare places count too). A statement '..UptoSaid' is the law's where the arguments, and the package variables that the reading takes, are together of bulk at most 1048576: NARROWER than '..Said'. Prove '..Said' where nothing that the law and all that it calls make is longer than what came in: it says more and counts as full. Else prove '..UptoSaid'. A law counts once. -/
mutual
def uptoBulk {H : Type} : DataW H → Nat
  | .lit (.string bytes) => bytes.length + 1
  | .lit _ => 1
  | .nil => 1
  | .ptr d => uptoBulk d + 1
  | .slice elems spare => uptoBulkAll elems + uptoBulkAll spare + 1
  | .agg parts => uptoBulkAll parts + 1
  | .iface _ d => uptoBulk d + 1
  | .map entries => uptoBulkEntries entries + 1
  | .held _ => 1
def uptoBulkAll {H : Type} : List (DataW H) → Nat
  | [] => 0
  | d :: r => uptoBulk d + uptoBulkAll r
def uptoBulkEntries {H : Type} : List (Lit × DataW H) → Nat
  | [] => 0
  | x :: r => uptoBulkEntry x + uptoBulkEntries r
def uptoBulkEntry {H : Type} : Lit × DataW H → Nat
  | (.string bytes, d) => bytes.length + uptoBulk d + 1
  | (_, d) => uptoBulk d + 1
 end
def uptoSmall : (H : Type) → List (DataW H) → Bool := fun _ ds => decide (uptoBulkAll ds ≤ 1048576)
def OpenSpec.upto (s : _root_.Go.ChangeSpec) : _root_.Go.OpenSpec := { _root_.Go.OpenSpec.ofChange s with cond := some uptoSmall }

/-- 'varvelaw07.HistReads', WHERE WHAT IT READS IS OF BULK AT MOST 1048576: true; the input reads as it did. -/
def histReadsUptoRow : OpenClaim := { program := "ytplgffbfepnihaa", sum := "6a0bfd9536a231b888023bede7ca2bfee9c0f307d0599f77a18599720a74ebe3", func := "varve/varvelaw07.HistReads", spec := "histReads", inPlace := ["math/bits.Add64"], named := ["math/bits.divideError", "math/bits.overflowError"], apart := false, narrowed := true }
def HistReadsUptoSaid : Prop := histReadsUptoRow.holds Try.pinned (OpenSpec.upto histReadsSpec)

/-- 'varvelaw07.HistBytes', WHERE WHAT IT READS IS OF BULK AT MOST 1048576: true; the input reads as it did. -/
def histBytesUptoRow : OpenClaim := { program := "ytplgffbfepnihaa", sum := "6a0bfd9536a231b888023bede7ca2bfee9c0f307d0599f77a18599720a74ebe3", func := "varve/varvelaw07.HistBytes", spec := "histBytes", inPlace := ["math/bits.Add64"], named := ["math/bits.divideError", "math/bits.overflowError"], apart := false, narrowed := true }
def HistBytesUptoSaid : Prop := histBytesUptoRow.holds Try.pinned (OpenSpec.upto histBytesSpec)

/-- 'varvelaw07.HistForms', WHERE WHAT IT READS IS OF BULK AT MOST 1048576: true; the input reads as it did. -/
def histFormsUptoRow : OpenClaim := { program := "ytplgffbfepnihaa", sum := "6a0bfd9536a231b888023bede7ca2bfee9c0f307d0599f77a18599720a74ebe3", func := "varve/varvelaw07.HistForms", spec := "histForms", inPlace := ["math/bits.Add64"], named := ["math/bits.divideError", "math/bits.overflowError"], apart := false, narrowed := true }
def HistFormsUptoSaid : Prop := histFormsUptoRow.holds Try.pinned (OpenSpec.upto histFormsSpec)

/-- 'varvelaw10.PairOf', WHERE WHAT IT READS IS OF BULK AT MOST 1048576: true; the input reads as it did. -/
def pairOfUptoRow : OpenClaim := { program := "ytplgffbfepnihaa", sum := "6a0bfd9536a231b888023bede7ca2bfee9c0f307d0599f77a18599720a74ebe3", func := "varve/varvelaw10.PairOf", spec := "pairOf", inPlace := ["math/bits.Add64", "math.Float64frombits"], recurses := true, apart := false, narrowed := true }
def PairOfUptoSaid : Prop := pairOfUptoRow.holds Try.pinned (OpenSpec.upto pairOfSpec)

/-- 'varvelaw08.KmvBytes', WHERE WHAT IT READS IS OF BULK AT MOST 1048576: true; the input reads as it did. -/
def kmvBytesUptoRow : OpenClaim := { program := "ytplgffbfepnihaa", sum := "6a0bfd9536a231b888023bede7ca2bfee9c0f307d0599f77a18599720a74ebe3", func := "varve/varvelaw08.KmvBytes", spec := "kmvBytes", recurses := true, named := ["math/bits.divideError", "math/bits.overflowError"], apart := false, narrowed := true }
def KmvBytesUptoSaid : Prop := kmvBytesUptoRow.holds Try.pinned (OpenSpec.upto kmvBytesSpec)

/-- 'varvelaw10.PairBytes', WHERE WHAT IT READS IS OF BULK AT MOST 1048576: true; the input reads as it did. -/
def pairBytesUptoRow : OpenClaim := { program := "ytplgffbfepnihaa", sum := "6a0bfd9536a231b888023bede7ca2bfee9c0f307d0599f77a18599720a74ebe3", func := "varve/varvelaw10.PairBytes", spec := "pairBytes", inPlace := ["math.Float64frombits", "math/bits.Add64"], recurses := true, apart := false, narrowed := true }
def PairBytesUptoSaid : Prop := pairBytesUptoRow.holds Try.pinned (OpenSpec.upto pairBytesSpec)

end Rows
end Go.Proofs.Ytplgffbfepnihaa
