/-
  No cell of these rows narrows 'for every input' (looked for: loops, veiled, ifaces, maps, wideKeys, modest, calm, conditions, laid).
  DERIVED. THE GIVEN ROWS OF THIS SEAT. 5 by the template 'for every input the law returns true; each argument reads behind the call as it read before'; 0 by the template 'total and deterministic' (their statements: YtpgeomgaphodkaaTotals.lean).
  GIVEN WITH THE SEED: the statements are not yours to turn. If you find one false, say at which input.
  Laid BY PROGRAM, IN A SANDBOX (cutbox-rows.mjs): the forced cells as the released guide's own fill.sh prints them over the translation 538927957a9f0313… (all of the seat's roots in one cut). By AI agents, Wed Nov 11 2026. No macro, syntax, notation, axiom, sorry.
-/
import Derived.Test.YtpgeomgaphodkaaChecked
import GoSem.Claim
import GoSem.ClaimJoined
import GoSem.ClaimMapViews
import Derived.JoinedTies
import Derived.KernelRfl
namespace Go.Proofs.Ytpgeomgaphodkaa
/- THE CELL 'sum', in the pinned program and in every row, IS THE sha256 OF THE DUMP (.gsa) THAT YtpgeomgaphodkaaProg.lean LOADS. Nothing in Lean hashes anything: it is a label: what it is worth is what the hold of that sum in a sandbox is worth. -/
noncomputable def Try.pinned : Pinned := { name := "ytpgeomgaphodkaa", sum := "538927957a9f03136bc8dd5b53fa1ef24ebcfee73cc75d0919309e590c4a2c5b", checked := Try.checked }
namespace Rows
def none {H : Type} : Left H := { results := [], args := [] }

/-- 'signalbenchlaw19.StuffDecodes': WHATEVER THE INPUT: true; the input reads as it did. -/
def stuffDecodesSpec : ChangeSpec := { name := "stuffDecodes", fn := fun _ => fun
  | [d1, d2] => { results := [.lit (.bool true)], args := [d1, d2] }
  | _ => none }
def stuffDecodesRow : OpenClaim := { program := "ytpgeomgaphodkaa", sum := "538927957a9f03136bc8dd5b53fa1ef24ebcfee73cc75d0919309e590c4a2c5b", func := "signalbench/signalbenchlaw19.StuffDecodes", spec := "stuffDecodes", apart := false }
def StuffDecodesSaid : Prop := stuffDecodesRow.holds Try.pinned (OpenSpec.ofChange stuffDecodesSpec)

/-- ITS FALSE NEIGHBOUR: 'it returns false'. Refute it at one input. -/
def stuffDecodesWrong : ChangeSpec := { name := "stuffDecodes", fn := fun _ => fun
  | [d1, d2] => { results := [.lit (.bool false)], args := [d1, d2] }
  | _ => none }
def StuffDecodesWrongFalsely : Prop := stuffDecodesRow.holds Try.pinned (OpenSpec.ofChange stuffDecodesWrong)

/-- 'signalbenchlaw19.StuffEncodes': WHATEVER THE INPUT: true; the input reads as it did. -/
def stuffEncodesSpec : ChangeSpec := { name := "stuffEncodes", fn := fun _ => fun
  | [d1, d2] => { results := [.lit (.bool true)], args := [d1, d2] }
  | _ => none }
def stuffEncodesRow : OpenClaim := { program := "ytpgeomgaphodkaa", sum := "538927957a9f03136bc8dd5b53fa1ef24ebcfee73cc75d0919309e590c4a2c5b", func := "signalbench/signalbenchlaw19.StuffEncodes", spec := "stuffEncodes", apart := false }
def StuffEncodesSaid : Prop := stuffEncodesRow.holds Try.pinned (OpenSpec.ofChange stuffEncodesSpec)

/-- ITS FALSE NEIGHBOUR: 'it returns false'. Refute it at one input. -/
def stuffEncodesWrong : ChangeSpec := { name := "stuffEncodes", fn := fun _ => fun
  | [d1, d2] => { results := [.lit (.bool false)], args := [d1, d2] }
  | _ => none }
def StuffEncodesWrongFalsely : Prop := stuffEncodesRow.holds Try.pinned (OpenSpec.ofChange stuffEncodesWrong)

/-- 'signalbenchlaw19.StuffRoundTrips': WHATEVER THE INPUT: true; the input reads as it did. -/
def stuffRoundTripsSpec : ChangeSpec := { name := "stuffRoundTrips", fn := fun _ => fun
  | [d1, d2] => { results := [.lit (.bool true)], args := [d1, d2] }
  | _ => none }
def stuffRoundTripsRow : OpenClaim := { program := "ytpgeomgaphodkaa", sum := "538927957a9f03136bc8dd5b53fa1ef24ebcfee73cc75d0919309e590c4a2c5b", func := "signalbench/signalbenchlaw19.StuffRoundTrips", spec := "stuffRoundTrips", apart := false }
def StuffRoundTripsSaid : Prop := stuffRoundTripsRow.holds Try.pinned (OpenSpec.ofChange stuffRoundTripsSpec)

/-- ITS FALSE NEIGHBOUR: 'it returns false'. Refute it at one input. -/
def stuffRoundTripsWrong : ChangeSpec := { name := "stuffRoundTrips", fn := fun _ => fun
  | [d1, d2] => { results := [.lit (.bool false)], args := [d1, d2] }
  | _ => none }
def StuffRoundTripsWrongFalsely : Prop := stuffRoundTripsRow.holds Try.pinned (OpenSpec.ofChange stuffRoundTripsWrong)

/-- 'signalbenchlaw19.StuffFaults': WHATEVER THE INPUT: true; the input reads as it did. -/
def stuffFaultsSpec : ChangeSpec := { name := "stuffFaults", fn := fun _ => fun
  | [d1, d2] => { results := [.lit (.bool true)], args := [d1, d2] }
  | _ => none }
def stuffFaultsRow : OpenClaim := { program := "ytpgeomgaphodkaa", sum := "538927957a9f03136bc8dd5b53fa1ef24ebcfee73cc75d0919309e590c4a2c5b", func := "signalbench/signalbenchlaw19.StuffFaults", spec := "stuffFaults", apart := false }
def StuffFaultsSaid : Prop := stuffFaultsRow.holds Try.pinned (OpenSpec.ofChange stuffFaultsSpec)

/-- ITS FALSE NEIGHBOUR: 'it returns false'. Refute it at one input. -/
def stuffFaultsWrong : ChangeSpec := { name := "stuffFaults", fn := fun _ => fun
  | [d1, d2] => { results := [.lit (.bool false)], args := [d1, d2] }
  | _ => none }
def StuffFaultsWrongFalsely : Prop := stuffFaultsRow.holds Try.pinned (OpenSpec.ofChange stuffFaultsWrong)

/-- 'signalbenchlaw19.StuffRuns': WHATEVER THE INPUT: true; the input reads as it did. -/
def stuffRunsSpec : ChangeSpec := { name := "stuffRuns", fn := fun _ => fun
  | [d1, d2] => { results := [.lit (.bool true)], args := [d1, d2] }
  | _ => none }
def stuffRunsRow : OpenClaim := { program := "ytpgeomgaphodkaa", sum := "538927957a9f03136bc8dd5b53fa1ef24ebcfee73cc75d0919309e590c4a2c5b", func := "signalbench/signalbenchlaw19.StuffRuns", spec := "stuffRuns", apart := false }
def StuffRunsSaid : Prop := stuffRunsRow.holds Try.pinned (OpenSpec.ofChange stuffRunsSpec)

/-- ITS FALSE NEIGHBOUR: 'it returns false'. Refute it at one input. -/
def stuffRunsWrong : ChangeSpec := { name := "stuffRuns", fn := fun _ => fun
  | [d1, d2] => { results := [.lit (.bool false)], args := [d1, d2] }
  | _ => none }
def StuffRunsWrongFalsely : Prop := stuffRunsRow.holds Try.pinned (OpenSpec.ofChange stuffRunsWrong)

/- THE SECOND FORM. 'bulk': how many values and letters a reading holds, each counted each time it is reached (what is shared counts as often as it is met; a slice's spare places count too). A statement '..UptoSaid' is the law's where the arguments, and the package variables that the reading takes, are together of bulk at most 1048576: NARROWER than '..Said'. Prove '..Said' where nothing that the law and all that it calls make is longer than what came in: it says more and counts as full. Else prove '..UptoSaid'. A law counts once. -/
mutual
def uptoBulk {H : Type} : DataW H → Nat
  | .lit (.string bytes) => bytes.length + 1
  | .lit _ => 1
  | .nil => 1
  | .ptr d => uptoBulk d + 1
  | .slice elems spare => uptoBulkAll elems + uptoBulkAll spare + 1
  | .agg parts => uptoBulkAll parts + 1
  | .iface _ d => uptoBulk d + 1
  | .map entries => uptoBulkEntries entries + 1
  | .held _ => 1
def uptoBulkAll {H : Type} : List (DataW H) → Nat
  | [] => 0
  | d :: r => uptoBulk d + uptoBulkAll r
def uptoBulkEntries {H : Type} : List (Lit × DataW H) → Nat
  | [] => 0
  | x :: r => uptoBulkEntry x + uptoBulkEntries r
def uptoBulkEntry {H : Type} : Lit × DataW H → Nat
  | (.string bytes, d) => bytes.length + uptoBulk d + 1
  | (_, d) => uptoBulk d + 1
 end
def uptoSmall : (H : Type) → List (DataW H) → Bool := fun _ ds => decide (uptoBulkAll ds ≤ 1048576)
def OpenSpec.upto (s : _root_.Go.ChangeSpec) : _root_.Go.OpenSpec := { _root_.Go.OpenSpec.ofChange s with cond := some uptoSmall }

/-- 'signalbenchlaw19.StuffDecodes', WHERE WHAT IT READS IS OF BULK AT MOST 1048576: true; the input reads as it did. -/
def stuffDecodesUptoRow : OpenClaim := { program := "ytpgeomgaphodkaa", sum := "538927957a9f03136bc8dd5b53fa1ef24ebcfee73cc75d0919309e590c4a2c5b", func := "signalbench/signalbenchlaw19.StuffDecodes", spec := "stuffDecodes", apart := false, narrowed := true }
def StuffDecodesUptoSaid : Prop := stuffDecodesUptoRow.holds Try.pinned (OpenSpec.upto stuffDecodesSpec)

/-- 'signalbenchlaw19.StuffEncodes', WHERE WHAT IT READS IS OF BULK AT MOST 1048576: true; the input reads as it did. -/
def stuffEncodesUptoRow : OpenClaim := { program := "ytpgeomgaphodkaa", sum := "538927957a9f03136bc8dd5b53fa1ef24ebcfee73cc75d0919309e590c4a2c5b", func := "signalbench/signalbenchlaw19.StuffEncodes", spec := "stuffEncodes", apart := false, narrowed := true }
def StuffEncodesUptoSaid : Prop := stuffEncodesUptoRow.holds Try.pinned (OpenSpec.upto stuffEncodesSpec)

/-- 'signalbenchlaw19.StuffRoundTrips', WHERE WHAT IT READS IS OF BULK AT MOST 1048576: true; the input reads as it did. -/
def stuffRoundTripsUptoRow : OpenClaim := { program := "ytpgeomgaphodkaa", sum := "538927957a9f03136bc8dd5b53fa1ef24ebcfee73cc75d0919309e590c4a2c5b", func := "signalbench/signalbenchlaw19.StuffRoundTrips", spec := "stuffRoundTrips", apart := false, narrowed := true }
def StuffRoundTripsUptoSaid : Prop := stuffRoundTripsUptoRow.holds Try.pinned (OpenSpec.upto stuffRoundTripsSpec)

/-- 'signalbenchlaw19.StuffFaults', WHERE WHAT IT READS IS OF BULK AT MOST 1048576: true; the input reads as it did. -/
def stuffFaultsUptoRow : OpenClaim := { program := "ytpgeomgaphodkaa", sum := "538927957a9f03136bc8dd5b53fa1ef24ebcfee73cc75d0919309e590c4a2c5b", func := "signalbench/signalbenchlaw19.StuffFaults", spec := "stuffFaults", apart := false, narrowed := true }
def StuffFaultsUptoSaid : Prop := stuffFaultsUptoRow.holds Try.pinned (OpenSpec.upto stuffFaultsSpec)

/-- 'signalbenchlaw19.StuffRuns', WHERE WHAT IT READS IS OF BULK AT MOST 1048576: true; the input reads as it did. -/
def stuffRunsUptoRow : OpenClaim := { program := "ytpgeomgaphodkaa", sum := "538927957a9f03136bc8dd5b53fa1ef24ebcfee73cc75d0919309e590c4a2c5b", func := "signalbench/signalbenchlaw19.StuffRuns", spec := "stuffRuns", apart := false, narrowed := true }
def StuffRunsUptoSaid : Prop := stuffRunsUptoRow.holds Try.pinned (OpenSpec.upto stuffRunsSpec)

end Rows
end Go.Proofs.Ytpgeomgaphodkaa
