/-
  No cell of these rows narrows 'for every input' (looked for: loops, veiled, ifaces, maps, wideKeys, modest, calm, conditions, laid).
  DERIVED. THE GIVEN ROWS OF THIS SEAT. 5 by the template 'for every input the law returns true; each argument reads behind the call as it read before'; 0 by the template 'total and deterministic' (their statements: YtjgfhccibljkbaaTotals.lean).
  GIVEN WITH THE SEED: the statements are not yours to turn. If you find one false, say at which input.
  Laid BY PROGRAM, IN A SANDBOX (cutbox-rows.mjs): the forced cells as the released guide's own fill.sh prints them over the translation d3d16c54606aa513… (all of the seat's roots in one cut). By AI agents, Wed Nov 11 2026. No macro, syntax, notation, axiom, sorry.
-/
import Derived.Test.YtjgfhccibljkbaaChecked
import GoSem.Claim
import GoSem.ClaimJoined
import GoSem.ClaimMapViews
import Derived.JoinedTies
import Derived.KernelRfl
namespace Go.Proofs.Ytjgfhccibljkbaa
/- THE CELL 'sum', in the pinned program and in every row, IS THE sha256 OF THE DUMP (.gsa) THAT YtjgfhccibljkbaaProg.lean LOADS. Nothing in Lean hashes anything: it is a label: what it is worth is what the hold of that sum in a sandbox is worth. -/
noncomputable def Try.pinned : Pinned := { name := "ytjgfhccibljkbaa", sum := "d3d16c54606aa513d5db3338b11b11835edf5eabddbd53d1e4e6b0398a1476c6", checked := Try.checked }
namespace Rows
def none {H : Type} : Left H := { results := [], args := [] }

/-- 'signalbenchlaw16.NrziDecodes': WHATEVER THE INPUT: true; the input reads as it did. -/
def nrziDecodesSpec : ChangeSpec := { name := "nrziDecodes", fn := fun _ => fun
  | [d1, d2] => { results := [.lit (.bool true)], args := [d1, d2] }
  | _ => none }
def nrziDecodesRow : OpenClaim := { program := "ytjgfhccibljkbaa", sum := "d3d16c54606aa513d5db3338b11b11835edf5eabddbd53d1e4e6b0398a1476c6", func := "signalbench/signalbenchlaw16.NrziDecodes", spec := "nrziDecodes", unfollowed := true, recurses := true, apart := false }
def NrziDecodesSaid : Prop := nrziDecodesRow.holds Try.pinned (OpenSpec.ofChange nrziDecodesSpec)

/-- ITS FALSE NEIGHBOUR: 'it returns false'. Refute it at one input. -/
def nrziDecodesWrong : ChangeSpec := { name := "nrziDecodes", fn := fun _ => fun
  | [d1, d2] => { results := [.lit (.bool false)], args := [d1, d2] }
  | _ => none }
def NrziDecodesWrongFalsely : Prop := nrziDecodesRow.holds Try.pinned (OpenSpec.ofChange nrziDecodesWrong)

/-- 'signalbenchlaw16.NrziRoundTrips': WHATEVER THE INPUT: true; the input reads as it did. -/
def nrziRoundTripsSpec : ChangeSpec := { name := "nrziRoundTrips", fn := fun _ => fun
  | [d1, d2] => { results := [.lit (.bool true)], args := [d1, d2] }
  | _ => none }
def nrziRoundTripsRow : OpenClaim := { program := "ytjgfhccibljkbaa", sum := "d3d16c54606aa513d5db3338b11b11835edf5eabddbd53d1e4e6b0398a1476c6", func := "signalbench/signalbenchlaw16.NrziRoundTrips", spec := "nrziRoundTrips", unfollowed := true, recurses := true, apart := false }
def NrziRoundTripsSaid : Prop := nrziRoundTripsRow.holds Try.pinned (OpenSpec.ofChange nrziRoundTripsSpec)

/-- ITS FALSE NEIGHBOUR: 'it returns false'. Refute it at one input. -/
def nrziRoundTripsWrong : ChangeSpec := { name := "nrziRoundTrips", fn := fun _ => fun
  | [d1, d2] => { results := [.lit (.bool false)], args := [d1, d2] }
  | _ => none }
def NrziRoundTripsWrongFalsely : Prop := nrziRoundTripsRow.holds Try.pinned (OpenSpec.ofChange nrziRoundTripsWrong)

/-- 'signalbenchlaw16.NrziInverts': WHATEVER THE INPUT: true; the input reads as it did. -/
def nrziInvertsSpec : ChangeSpec := { name := "nrziInverts", fn := fun _ => fun
  | [d] => { results := [.lit (.bool true)], args := [d] }
  | _ => none }
def nrziInvertsRow : OpenClaim := { program := "ytjgfhccibljkbaa", sum := "d3d16c54606aa513d5db3338b11b11835edf5eabddbd53d1e4e6b0398a1476c6", func := "signalbench/signalbenchlaw16.NrziInverts", spec := "nrziInverts", unfollowed := true, recurses := true, apart := false }
def NrziInvertsSaid : Prop := nrziInvertsRow.holds Try.pinned (OpenSpec.ofChange nrziInvertsSpec)

/-- ITS FALSE NEIGHBOUR: 'it returns false'. Refute it at one input. -/
def nrziInvertsWrong : ChangeSpec := { name := "nrziInverts", fn := fun _ => fun
  | [d] => { results := [.lit (.bool false)], args := [d] }
  | _ => none }
def NrziInvertsWrongFalsely : Prop := nrziInvertsRow.holds Try.pinned (OpenSpec.ofChange nrziInvertsWrong)

/-- 'signalbenchlaw16.NrziIgnores': WHATEVER THE INPUT: true; the input reads as it did. -/
def nrziIgnoresSpec : ChangeSpec := { name := "nrziIgnores", fn := fun _ => fun
  | [d1, d2, d3] => { results := [.lit (.bool true)], args := [d1, d2, d3] }
  | _ => none }
def nrziIgnoresRow : OpenClaim := { program := "ytjgfhccibljkbaa", sum := "d3d16c54606aa513d5db3338b11b11835edf5eabddbd53d1e4e6b0398a1476c6", func := "signalbench/signalbenchlaw16.NrziIgnores", spec := "nrziIgnores", unfollowed := true, recurses := true, apart := false }
def NrziIgnoresSaid : Prop := nrziIgnoresRow.holds Try.pinned (OpenSpec.ofChange nrziIgnoresSpec)

/-- ITS FALSE NEIGHBOUR: 'it returns false'. Refute it at one input. -/
def nrziIgnoresWrong : ChangeSpec := { name := "nrziIgnores", fn := fun _ => fun
  | [d1, d2, d3] => { results := [.lit (.bool false)], args := [d1, d2, d3] }
  | _ => none }
def NrziIgnoresWrongFalsely : Prop := nrziIgnoresRow.holds Try.pinned (OpenSpec.ofChange nrziIgnoresWrong)

/-- 'signalbenchlaw16.NrziEncodes': WHATEVER THE INPUT: true; the input reads as it did. -/
def nrziEncodesSpec : ChangeSpec := { name := "nrziEncodes", fn := fun _ => fun
  | [d1, d2] => { results := [.lit (.bool true)], args := [d1, d2] }
  | _ => none }
def nrziEncodesRow : OpenClaim := { program := "ytjgfhccibljkbaa", sum := "d3d16c54606aa513d5db3338b11b11835edf5eabddbd53d1e4e6b0398a1476c6", func := "signalbench/signalbenchlaw16.NrziEncodes", spec := "nrziEncodes", unfollowed := true, recurses := true, apart := false }
def NrziEncodesSaid : Prop := nrziEncodesRow.holds Try.pinned (OpenSpec.ofChange nrziEncodesSpec)

/-- ITS FALSE NEIGHBOUR: 'it returns false'. Refute it at one input. -/
def nrziEncodesWrong : ChangeSpec := { name := "nrziEncodes", fn := fun _ => fun
  | [d1, d2] => { results := [.lit (.bool false)], args := [d1, d2] }
  | _ => none }
def NrziEncodesWrongFalsely : Prop := nrziEncodesRow.holds Try.pinned (OpenSpec.ofChange nrziEncodesWrong)

/- THE SECOND FORM. 'bulk': how many values and letters a reading holds, each counted each time it is reached (what is shared counts as often as it is met; a slice's spare places count too). A statement '..UptoSaid' is the law's where the arguments, and the package variables that the reading takes, are together of bulk at most 1048576: NARROWER than '..Said'. Prove '..Said' where nothing that the law and all that it calls make is longer than what came in: it says more and counts as full. Else prove '..UptoSaid'. A law counts once. -/
mutual
def uptoBulk {H : Type} : DataW H → Nat
  | .lit (.string bytes) => bytes.length + 1
  | .lit _ => 1
  | .nil => 1
  | .ptr d => uptoBulk d + 1
  | .slice elems spare => uptoBulkAll elems + uptoBulkAll spare + 1
  | .agg parts => uptoBulkAll parts + 1
  | .iface _ d => uptoBulk d + 1
  | .map entries => uptoBulkEntries entries + 1
  | .held _ => 1
def uptoBulkAll {H : Type} : List (DataW H) → Nat
  | [] => 0
  | d :: r => uptoBulk d + uptoBulkAll r
def uptoBulkEntries {H : Type} : List (Lit × DataW H) → Nat
  | [] => 0
  | x :: r => uptoBulkEntry x + uptoBulkEntries r
def uptoBulkEntry {H : Type} : Lit × DataW H → Nat
  | (.string bytes, d) => bytes.length + uptoBulk d + 1
  | (_, d) => uptoBulk d + 1
 end
def uptoSmall : (H : Type) → List (DataW H) → Bool := fun _ ds => decide (uptoBulkAll ds ≤ 1048576)
def OpenSpec.upto (s : _root_.Go.ChangeSpec) : _root_.Go.OpenSpec := { _root_.Go.OpenSpec.ofChange s with cond := some uptoSmall }

/-- 'signalbenchlaw16.NrziDecodes', WHERE WHAT IT READS IS OF BULK AT MOST 1048576: true; the input reads as it did. -/
def nrziDecodesUptoRow : OpenClaim := { program := "ytjgfhccibljkbaa", sum := "d3d16c54606aa513d5db3338b11b11835edf5eabddbd53d1e4e6b0398a1476c6", func := "signalbench/signalbenchlaw16.NrziDecodes", spec := "nrziDecodes", unfollowed := true, recurses := true, apart := false, narrowed := true }
def NrziDecodesUptoSaid : Prop := nrziDecodesUptoRow.holds Try.pinned (OpenSpec.upto nrziDecodesSpec)

/-- 'signalbenchlaw16.NrziRoundTrips', WHERE WHAT IT READS IS OF BULK AT MOST 1048576: true; the input reads as it did. -/
def nrziRoundTripsUptoRow : OpenClaim := { program := "ytjgfhccibljkbaa", sum := "d3d16c54606aa513d5db3338b11b11835edf5eabddbd53d1e4e6b0398a1476c6", func := "signalbench/signalbenchlaw16.NrziRoundTrips", spec := "nrziRoundTrips", unfollowed := true, recurses := true, apart := false, narrowed := true }
def NrziRoundTripsUptoSaid : Prop := nrziRoundTripsUptoRow.holds Try.pinned (OpenSpec.upto nrziRoundTripsSpec)

/-- 'signalbenchlaw16.NrziInverts', WHERE WHAT IT READS IS OF BULK AT MOST 1048576: true; the input reads as it did. -/
def nrziInvertsUptoRow : OpenClaim := { program := "ytjgfhccibljkbaa", sum := "d3d16c54606aa513d5db3338b11b11835edf5eabddbd53d1e4e6b0398a1476c6", func := "signalbench/signalbenchlaw16.NrziInverts", spec := "nrziInverts", unfollowed := true, recurses := true, apart := false, narrowed := true }
def NrziInvertsUptoSaid : Prop := nrziInvertsUptoRow.holds Try.pinned (OpenSpec.upto nrziInvertsSpec)

/-- 'signalbenchlaw16.NrziIgnores', WHERE WHAT IT READS IS OF BULK AT MOST 1048576: true; the input reads as it did. -/
def nrziIgnoresUptoRow : OpenClaim := { program := "ytjgfhccibljkbaa", sum := "d3d16c54606aa513d5db3338b11b11835edf5eabddbd53d1e4e6b0398a1476c6", func := "signalbench/signalbenchlaw16.NrziIgnores", spec := "nrziIgnores", unfollowed := true, recurses := true, apart := false, narrowed := true }
def NrziIgnoresUptoSaid : Prop := nrziIgnoresUptoRow.holds Try.pinned (OpenSpec.upto nrziIgnoresSpec)

/-- 'signalbenchlaw16.NrziEncodes', WHERE WHAT IT READS IS OF BULK AT MOST 1048576: true; the input reads as it did. -/
def nrziEncodesUptoRow : OpenClaim := { program := "ytjgfhccibljkbaa", sum := "d3d16c54606aa513d5db3338b11b11835edf5eabddbd53d1e4e6b0398a1476c6", func := "signalbench/signalbenchlaw16.NrziEncodes", spec := "nrziEncodes", unfollowed := true, recurses := true, apart := false, narrowed := true }
def NrziEncodesUptoSaid : Prop := nrziEncodesUptoRow.holds Try.pinned (OpenSpec.upto nrziEncodesSpec)

end Rows
end Go.Proofs.Ytjgfhccibljkbaa
