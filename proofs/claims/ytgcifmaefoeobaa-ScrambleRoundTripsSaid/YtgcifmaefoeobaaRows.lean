/-
  No cell of these rows narrows 'for every input' (looked for: loops, veiled, ifaces, maps, wideKeys, modest, calm, conditions, laid).
  DERIVED. THE GIVEN ROWS OF THIS SEAT. 6 by the template 'for every input the law returns true; each argument reads behind the call as it read before'; 0 by the template 'total and deterministic' (their statements: YtgcifmaefoeobaaTotals.lean).
  GIVEN WITH THE SEED: the statements are not yours to turn. If you find one false, say at which input.
  Laid BY PROGRAM, IN A SANDBOX (cutbox-rows.mjs): the forced cells as the released guide's own fill.sh prints them over the translation 4794c540828b0249… (all of the seat's roots in one cut). By AI agents, Wed Nov 11 2026. No macro, syntax, notation, axiom, sorry.
-/
import Derived.Test.YtgcifmaefoeobaaChecked
import GoSem.Claim
import GoSem.ClaimJoined
import GoSem.ClaimMapViews
import Derived.JoinedTies
import Derived.KernelRfl
namespace Go.Proofs.Ytgcifmaefoeobaa
/- THE CELL 'sum', in the pinned program and in every row, IS THE sha256 OF THE DUMP (.gsa) THAT YtgcifmaefoeobaaProg.lean LOADS. Nothing in Lean hashes anything: it is a label: what it is worth is what the hold of that sum in a sandbox is worth. -/
noncomputable def Try.pinned : Pinned := { name := "ytgcifmaefoeobaa", sum := "4794c540828b0249de4ed2f8f1f838e94826d07d8d27dca7aedd9f364ff3fce2", checked := Try.checked }
namespace Rows
def none {H : Type} : Left H := { results := [], args := [] }

/-- 'signalbenchlaw20.ScrambleChecks': WHATEVER THE INPUT: true; the input reads as it did. -/
def scrambleChecksSpec : ChangeSpec := { name := "scrambleChecks", fn := fun _ => fun
  | [d1, d2, d3] => { results := [.lit (.bool true)], args := [d1, d2, d3] }
  | _ => none }
def scrambleChecksRow : OpenClaim := { program := "ytgcifmaefoeobaa", sum := "4794c540828b0249de4ed2f8f1f838e94826d07d8d27dca7aedd9f364ff3fce2", func := "signalbench/signalbenchlaw20.ScrambleChecks", spec := "scrambleChecks", apart := false }
def ScrambleChecksSaid : Prop := scrambleChecksRow.holds Try.pinned (OpenSpec.ofChange scrambleChecksSpec)

/-- ITS FALSE NEIGHBOUR: 'it returns false'. Refute it at one input. -/
def scrambleChecksWrong : ChangeSpec := { name := "scrambleChecks", fn := fun _ => fun
  | [d1, d2, d3] => { results := [.lit (.bool false)], args := [d1, d2, d3] }
  | _ => none }
def ScrambleChecksWrongFalsely : Prop := scrambleChecksRow.holds Try.pinned (OpenSpec.ofChange scrambleChecksWrong)

/-- 'signalbenchlaw20.ScrambleDecodes': WHATEVER THE INPUT: true; the input reads as it did. -/
def scrambleDecodesSpec : ChangeSpec := { name := "scrambleDecodes", fn := fun _ => fun
  | [d1, d2] => { results := [.lit (.bool true)], args := [d1, d2] }
  | _ => none }
def scrambleDecodesRow : OpenClaim := { program := "ytgcifmaefoeobaa", sum := "4794c540828b0249de4ed2f8f1f838e94826d07d8d27dca7aedd9f364ff3fce2", func := "signalbench/signalbenchlaw20.ScrambleDecodes", spec := "scrambleDecodes", apart := false }
def ScrambleDecodesSaid : Prop := scrambleDecodesRow.holds Try.pinned (OpenSpec.ofChange scrambleDecodesSpec)

/-- ITS FALSE NEIGHBOUR: 'it returns false'. Refute it at one input. -/
def scrambleDecodesWrong : ChangeSpec := { name := "scrambleDecodes", fn := fun _ => fun
  | [d1, d2] => { results := [.lit (.bool false)], args := [d1, d2] }
  | _ => none }
def ScrambleDecodesWrongFalsely : Prop := scrambleDecodesRow.holds Try.pinned (OpenSpec.ofChange scrambleDecodesWrong)

/-- 'signalbenchlaw20.ScrambleEncodes': WHATEVER THE INPUT: true; the input reads as it did. -/
def scrambleEncodesSpec : ChangeSpec := { name := "scrambleEncodes", fn := fun _ => fun
  | [d1, d2] => { results := [.lit (.bool true)], args := [d1, d2] }
  | _ => none }
def scrambleEncodesRow : OpenClaim := { program := "ytgcifmaefoeobaa", sum := "4794c540828b0249de4ed2f8f1f838e94826d07d8d27dca7aedd9f364ff3fce2", func := "signalbench/signalbenchlaw20.ScrambleEncodes", spec := "scrambleEncodes", apart := false }
def ScrambleEncodesSaid : Prop := scrambleEncodesRow.holds Try.pinned (OpenSpec.ofChange scrambleEncodesSpec)

/-- ITS FALSE NEIGHBOUR: 'it returns false'. Refute it at one input. -/
def scrambleEncodesWrong : ChangeSpec := { name := "scrambleEncodes", fn := fun _ => fun
  | [d1, d2] => { results := [.lit (.bool false)], args := [d1, d2] }
  | _ => none }
def ScrambleEncodesWrongFalsely : Prop := scrambleEncodesRow.holds Try.pinned (OpenSpec.ofChange scrambleEncodesWrong)

/-- 'signalbenchlaw20.ScrambleRoundTrips': WHATEVER THE INPUT: true; the input reads as it did. -/
def scrambleRoundTripsSpec : ChangeSpec := { name := "scrambleRoundTrips", fn := fun _ => fun
  | [d1, d2] => { results := [.lit (.bool true)], args := [d1, d2] }
  | _ => none }
def scrambleRoundTripsRow : OpenClaim := { program := "ytgcifmaefoeobaa", sum := "4794c540828b0249de4ed2f8f1f838e94826d07d8d27dca7aedd9f364ff3fce2", func := "signalbench/signalbenchlaw20.ScrambleRoundTrips", spec := "scrambleRoundTrips", apart := false }
def ScrambleRoundTripsSaid : Prop := scrambleRoundTripsRow.holds Try.pinned (OpenSpec.ofChange scrambleRoundTripsSpec)

/-- ITS FALSE NEIGHBOUR: 'it returns false'. Refute it at one input. -/
def scrambleRoundTripsWrong : ChangeSpec := { name := "scrambleRoundTrips", fn := fun _ => fun
  | [d1, d2] => { results := [.lit (.bool false)], args := [d1, d2] }
  | _ => none }
def ScrambleRoundTripsWrongFalsely : Prop := scrambleRoundTripsRow.holds Try.pinned (OpenSpec.ofChange scrambleRoundTripsWrong)

/-- 'signalbenchlaw20.ScrambleSynchronizes': WHATEVER THE INPUT: true; the input reads as it did. -/
def scrambleSynchronizesSpec : ChangeSpec := { name := "scrambleSynchronizes", fn := fun _ => fun
  | [d1, d2, d3, d4] => { results := [.lit (.bool true)], args := [d1, d2, d3, d4] }
  | _ => none }
def scrambleSynchronizesRow : OpenClaim := { program := "ytgcifmaefoeobaa", sum := "4794c540828b0249de4ed2f8f1f838e94826d07d8d27dca7aedd9f364ff3fce2", func := "signalbench/signalbenchlaw20.ScrambleSynchronizes", spec := "scrambleSynchronizes", apart := false }
def ScrambleSynchronizesSaid : Prop := scrambleSynchronizesRow.holds Try.pinned (OpenSpec.ofChange scrambleSynchronizesSpec)

/-- ITS FALSE NEIGHBOUR: 'it returns false'. Refute it at one input. -/
def scrambleSynchronizesWrong : ChangeSpec := { name := "scrambleSynchronizes", fn := fun _ => fun
  | [d1, d2, d3, d4] => { results := [.lit (.bool false)], args := [d1, d2, d3, d4] }
  | _ => none }
def ScrambleSynchronizesWrongFalsely : Prop := scrambleSynchronizesRow.holds Try.pinned (OpenSpec.ofChange scrambleSynchronizesWrong)

/-- 'signalbenchlaw20.ScrambleLinear': WHATEVER THE INPUT: true; the input reads as it did. -/
def scrambleLinearSpec : ChangeSpec := { name := "scrambleLinear", fn := fun _ => fun
  | [d1, d2, d3] => { results := [.lit (.bool true)], args := [d1, d2, d3] }
  | _ => none }
def scrambleLinearRow : OpenClaim := { program := "ytgcifmaefoeobaa", sum := "4794c540828b0249de4ed2f8f1f838e94826d07d8d27dca7aedd9f364ff3fce2", func := "signalbench/signalbenchlaw20.ScrambleLinear", spec := "scrambleLinear", apart := false }
def ScrambleLinearSaid : Prop := scrambleLinearRow.holds Try.pinned (OpenSpec.ofChange scrambleLinearSpec)

/-- ITS FALSE NEIGHBOUR: 'it returns false'. Refute it at one input. -/
def scrambleLinearWrong : ChangeSpec := { name := "scrambleLinear", fn := fun _ => fun
  | [d1, d2, d3] => { results := [.lit (.bool false)], args := [d1, d2, d3] }
  | _ => none }
def ScrambleLinearWrongFalsely : Prop := scrambleLinearRow.holds Try.pinned (OpenSpec.ofChange scrambleLinearWrong)

/- THE SECOND FORM. 'bulk': how many values and letters a reading holds, each counted each time it is reached (what is shared counts as often as it is met; a slice's spare places count too). A statement '..UptoSaid' is the law's where the arguments, and the package variables that the reading takes, are together of bulk at most 1048576: NARROWER than '..Said'. Prove '..Said' where nothing that the law and all that it calls make is longer than what came in: it says more and counts as full. Else prove '..UptoSaid'. A law counts once. -/
mutual
def uptoBulk {H : Type} : DataW H → Nat
  | .lit (.string bytes) => bytes.length + 1
  | .lit _ => 1
  | .nil => 1
  | .ptr d => uptoBulk d + 1
  | .slice elems spare => uptoBulkAll elems + uptoBulkAll spare + 1
  | .agg parts => uptoBulkAll parts + 1
  | .iface _ d => uptoBulk d + 1
  | .map entries => uptoBulkEntries entries + 1
  | .held _ => 1
def uptoBulkAll {H : Type} : List (DataW H) → Nat
  | [] => 0
  | d :: r => uptoBulk d + uptoBulkAll r
def uptoBulkEntries {H : Type} : List (Lit × DataW H) → Nat
  | [] => 0
  | x :: r => uptoBulkEntry x + uptoBulkEntries r
def uptoBulkEntry {H : Type} : Lit × DataW H → Nat
  | (.string bytes, d) => bytes.length + uptoBulk d + 1
  | (_, d) => uptoBulk d + 1
 end
def uptoSmall : (H : Type) → List (DataW H) → Bool := fun _ ds => decide (uptoBulkAll ds ≤ 1048576)
def OpenSpec.upto (s : _root_.Go.ChangeSpec) : _root_.Go.OpenSpec := { _root_.Go.OpenSpec.ofChange s with cond := some uptoSmall }

/-- 'signalbenchlaw20.ScrambleChecks', WHERE WHAT IT READS IS OF BULK AT MOST 1048576: true; the input reads as it did. -/
def scrambleChecksUptoRow : OpenClaim := { program := "ytgcifmaefoeobaa", sum := "4794c540828b0249de4ed2f8f1f838e94826d07d8d27dca7aedd9f364ff3fce2", func := "signalbench/signalbenchlaw20.ScrambleChecks", spec := "scrambleChecks", apart := false, narrowed := true }
def ScrambleChecksUptoSaid : Prop := scrambleChecksUptoRow.holds Try.pinned (OpenSpec.upto scrambleChecksSpec)

/-- 'signalbenchlaw20.ScrambleDecodes', WHERE WHAT IT READS IS OF BULK AT MOST 1048576: true; the input reads as it did. -/
def scrambleDecodesUptoRow : OpenClaim := { program := "ytgcifmaefoeobaa", sum := "4794c540828b0249de4ed2f8f1f838e94826d07d8d27dca7aedd9f364ff3fce2", func := "signalbench/signalbenchlaw20.ScrambleDecodes", spec := "scrambleDecodes", apart := false, narrowed := true }
def ScrambleDecodesUptoSaid : Prop := scrambleDecodesUptoRow.holds Try.pinned (OpenSpec.upto scrambleDecodesSpec)

/-- 'signalbenchlaw20.ScrambleEncodes', WHERE WHAT IT READS IS OF BULK AT MOST 1048576: true; the input reads as it did. -/
def scrambleEncodesUptoRow : OpenClaim := { program := "ytgcifmaefoeobaa", sum := "4794c540828b0249de4ed2f8f1f838e94826d07d8d27dca7aedd9f364ff3fce2", func := "signalbench/signalbenchlaw20.ScrambleEncodes", spec := "scrambleEncodes", apart := false, narrowed := true }
def ScrambleEncodesUptoSaid : Prop := scrambleEncodesUptoRow.holds Try.pinned (OpenSpec.upto scrambleEncodesSpec)

/-- 'signalbenchlaw20.ScrambleRoundTrips', WHERE WHAT IT READS IS OF BULK AT MOST 1048576: true; the input reads as it did. -/
def scrambleRoundTripsUptoRow : OpenClaim := { program := "ytgcifmaefoeobaa", sum := "4794c540828b0249de4ed2f8f1f838e94826d07d8d27dca7aedd9f364ff3fce2", func := "signalbench/signalbenchlaw20.ScrambleRoundTrips", spec := "scrambleRoundTrips", apart := false, narrowed := true }
def ScrambleRoundTripsUptoSaid : Prop := scrambleRoundTripsUptoRow.holds Try.pinned (OpenSpec.upto scrambleRoundTripsSpec)

/-- 'signalbenchlaw20.ScrambleSynchronizes', WHERE WHAT IT READS IS OF BULK AT MOST 1048576: true; the input reads as it did. -/
def scrambleSynchronizesUptoRow : OpenClaim := { program := "ytgcifmaefoeobaa", sum := "4794c540828b0249de4ed2f8f1f838e94826d07d8d27dca7aedd9f364ff3fce2", func := "signalbench/signalbenchlaw20.ScrambleSynchronizes", spec := "scrambleSynchronizes", apart := false, narrowed := true }
def ScrambleSynchronizesUptoSaid : Prop := scrambleSynchronizesUptoRow.holds Try.pinned (OpenSpec.upto scrambleSynchronizesSpec)

/-- 'signalbenchlaw20.ScrambleLinear', WHERE WHAT IT READS IS OF BULK AT MOST 1048576: true; the input reads as it did. -/
def scrambleLinearUptoRow : OpenClaim := { program := "ytgcifmaefoeobaa", sum := "4794c540828b0249de4ed2f8f1f838e94826d07d8d27dca7aedd9f364ff3fce2", func := "signalbench/signalbenchlaw20.ScrambleLinear", spec := "scrambleLinear", apart := false, narrowed := true }
def ScrambleLinearUptoSaid : Prop := scrambleLinearUptoRow.holds Try.pinned (OpenSpec.upto scrambleLinearSpec)

end Rows
end Go.Proofs.Ytgcifmaefoeobaa
