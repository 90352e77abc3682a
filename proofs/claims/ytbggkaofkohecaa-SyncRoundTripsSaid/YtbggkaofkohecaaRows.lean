/-
  No cell of these rows narrows 'for every input' (looked for: loops, veiled, ifaces, maps, wideKeys, modest, calm, conditions, laid).
  DERIVED. THE GIVEN ROWS OF THIS SEAT. 5 by the template 'for every input the law returns true; each argument reads behind the call as it read before'; 0 by the template 'total and deterministic' (their statements: YtbggkaofkohecaaTotals.lean).
  GIVEN WITH THE SEED: the statements are not yours to turn. If you find one false, say at which input.
  Laid BY PROGRAM, IN A SANDBOX (cutbox-rows.mjs): the forced cells as the released guide's own fill.sh prints them over the translation b3179484396be81e… (all of the seat's roots in one cut). By AI agents, Wed Nov 11 2026. No macro, syntax, notation, axiom, sorry.
-/
import Derived.Test.YtbggkaofkohecaaChecked
import GoSem.Claim
import GoSem.ClaimJoined
import GoSem.ClaimMapViews
import Derived.JoinedTies
import Derived.KernelRfl
namespace Go.Proofs.Ytbggkaofkohecaa
/- THE CELL 'sum', in the pinned program and in every row, IS THE sha256 OF THE DUMP (.gsa) THAT YtbggkaofkohecaaProg.lean LOADS. Nothing in Lean hashes anything: it is a label: what it is worth is what the hold of that sum in a sandbox is worth. -/
noncomputable def Try.pinned : Pinned := { name := "ytbggkaofkohecaa", sum := "b3179484396be81e25056baf1c374b9c93bfc96040e372699b9fa1f2c1b0498c", checked := Try.checked }
namespace Rows
def none {H : Type} : Left H := { results := [], args := [] }

/-- 'signalbenchlaw21.SyncDecodes': WHATEVER THE INPUT: true; the input reads as it did. -/
def syncDecodesSpec : ChangeSpec := { name := "syncDecodes", fn := fun _ => fun
  | [d1, d2] => { results := [.lit (.bool true)], args := [d1, d2] }
  | _ => none }
def syncDecodesRow : OpenClaim := { program := "ytbggkaofkohecaa", sum := "b3179484396be81e25056baf1c374b9c93bfc96040e372699b9fa1f2c1b0498c", func := "signalbench/signalbenchlaw21.SyncDecodes", spec := "syncDecodes", apart := false }
def SyncDecodesSaid : Prop := syncDecodesRow.holds Try.pinned (OpenSpec.ofChange syncDecodesSpec)

/-- ITS FALSE NEIGHBOUR: 'it returns false'. Refute it at one input. -/
def syncDecodesWrong : ChangeSpec := { name := "syncDecodes", fn := fun _ => fun
  | [d1, d2] => { results := [.lit (.bool false)], args := [d1, d2] }
  | _ => none }
def SyncDecodesWrongFalsely : Prop := syncDecodesRow.holds Try.pinned (OpenSpec.ofChange syncDecodesWrong)

/-- 'signalbenchlaw21.SyncEncodes': WHATEVER THE INPUT: true; the input reads as it did. -/
def syncEncodesSpec : ChangeSpec := { name := "syncEncodes", fn := fun _ => fun
  | [d1, d2] => { results := [.lit (.bool true)], args := [d1, d2] }
  | _ => none }
def syncEncodesRow : OpenClaim := { program := "ytbggkaofkohecaa", sum := "b3179484396be81e25056baf1c374b9c93bfc96040e372699b9fa1f2c1b0498c", func := "signalbench/signalbenchlaw21.SyncEncodes", spec := "syncEncodes", apart := false }
def SyncEncodesSaid : Prop := syncEncodesRow.holds Try.pinned (OpenSpec.ofChange syncEncodesSpec)

/-- ITS FALSE NEIGHBOUR: 'it returns false'. Refute it at one input. -/
def syncEncodesWrong : ChangeSpec := { name := "syncEncodes", fn := fun _ => fun
  | [d1, d2] => { results := [.lit (.bool false)], args := [d1, d2] }
  | _ => none }
def SyncEncodesWrongFalsely : Prop := syncEncodesRow.holds Try.pinned (OpenSpec.ofChange syncEncodesWrong)

/-- 'signalbenchlaw21.SyncRoundTrips': WHATEVER THE INPUT: true; the input reads as it did. -/
def syncRoundTripsSpec : ChangeSpec := { name := "syncRoundTrips", fn := fun _ => fun
  | [d1, d2, d3] => { results := [.lit (.bool true)], args := [d1, d2, d3] }
  | _ => none }
def syncRoundTripsRow : OpenClaim := { program := "ytbggkaofkohecaa", sum := "b3179484396be81e25056baf1c374b9c93bfc96040e372699b9fa1f2c1b0498c", func := "signalbench/signalbenchlaw21.SyncRoundTrips", spec := "syncRoundTrips", apart := false }
def SyncRoundTripsSaid : Prop := syncRoundTripsRow.holds Try.pinned (OpenSpec.ofChange syncRoundTripsSpec)

/-- ITS FALSE NEIGHBOUR: 'it returns false'. Refute it at one input. -/
def syncRoundTripsWrong : ChangeSpec := { name := "syncRoundTrips", fn := fun _ => fun
  | [d1, d2, d3] => { results := [.lit (.bool false)], args := [d1, d2, d3] }
  | _ => none }
def SyncRoundTripsWrongFalsely : Prop := syncRoundTripsRow.holds Try.pinned (OpenSpec.ofChange syncRoundTripsWrong)

/-- 'signalbenchlaw21.SyncFirst': WHATEVER THE INPUT: true; the input reads as it did. -/
def syncFirstSpec : ChangeSpec := { name := "syncFirst", fn := fun _ => fun
  | [d1, d2] => { results := [.lit (.bool true)], args := [d1, d2] }
  | _ => none }
def syncFirstRow : OpenClaim := { program := "ytbggkaofkohecaa", sum := "b3179484396be81e25056baf1c374b9c93bfc96040e372699b9fa1f2c1b0498c", func := "signalbench/signalbenchlaw21.SyncFirst", spec := "syncFirst", apart := false }
def SyncFirstSaid : Prop := syncFirstRow.holds Try.pinned (OpenSpec.ofChange syncFirstSpec)

/-- ITS FALSE NEIGHBOUR: 'it returns false'. Refute it at one input. -/
def syncFirstWrong : ChangeSpec := { name := "syncFirst", fn := fun _ => fun
  | [d1, d2] => { results := [.lit (.bool false)], args := [d1, d2] }
  | _ => none }
def SyncFirstWrongFalsely : Prop := syncFirstRow.holds Try.pinned (OpenSpec.ofChange syncFirstWrong)

/-- 'signalbenchlaw21.SyncAborts': WHATEVER THE INPUT: true; the input reads as it did. -/
def syncAbortsSpec : ChangeSpec := { name := "syncAborts", fn := fun _ => fun
  | [d1, d2, d3] => { results := [.lit (.bool true)], args := [d1, d2, d3] }
  | _ => none }
def syncAbortsRow : OpenClaim := { program := "ytbggkaofkohecaa", sum := "b3179484396be81e25056baf1c374b9c93bfc96040e372699b9fa1f2c1b0498c", func := "signalbench/signalbenchlaw21.SyncAborts", spec := "syncAborts", apart := false }
def SyncAbortsSaid : Prop := syncAbortsRow.holds Try.pinned (OpenSpec.ofChange syncAbortsSpec)

/-- ITS FALSE NEIGHBOUR: 'it returns false'. Refute it at one input. -/
def syncAbortsWrong : ChangeSpec := { name := "syncAborts", fn := fun _ => fun
  | [d1, d2, d3] => { results := [.lit (.bool false)], args := [d1, d2, d3] }
  | _ => none }
def SyncAbortsWrongFalsely : Prop := syncAbortsRow.holds Try.pinned (OpenSpec.ofChange syncAbortsWrong)

/- THE SECOND FORM. 'bulk': how many values and letters a reading holds, each counted each time it is reached (what is shared counts as often as it is met; a slice's spare places count too). A statement '..UptoSaid' is the law's where the arguments, and the package variables that the reading takes, are together of bulk at most 1048576: NARROWER than '..Said'. Prove '..Said' where nothing that the law and all that it calls make is longer than what came in: it says more and counts as full. Else prove '..UptoSaid'. A law counts once. -/
mutual
def uptoBulk {H : Type} : DataW H → Nat
  | .lit (.string bytes) => bytes.length + 1
  | .lit _ => 1
  | .nil => 1
  | .ptr d => uptoBulk d + 1
  | .slice elems spare => uptoBulkAll elems + uptoBulkAll spare + 1
  | .agg parts => uptoBulkAll parts + 1
  | .iface _ d => uptoBulk d + 1
  | .map entries => uptoBulkEntries entries + 1
  | .held _ => 1
def uptoBulkAll {H : Type} : List (DataW H) → Nat
  | [] => 0
  | d :: r => uptoBulk d + uptoBulkAll r
def uptoBulkEntries {H : Type} : List (Lit × DataW H) → Nat
  | [] => 0
  | x :: r => uptoBulkEntry x + uptoBulkEntries r
def uptoBulkEntry {H : Type} : Lit × DataW H → Nat
  | (.string bytes, d) => bytes.length + uptoBulk d + 1
  | (_, d) => uptoBulk d + 1
 end
def uptoSmall : (H : Type) → List (DataW H) → Bool := fun _ ds => decide (uptoBulkAll ds ≤ 1048576)
def OpenSpec.upto (s : _root_.Go.ChangeSpec) : _root_.Go.OpenSpec := { _root_.Go.OpenSpec.ofChange s with cond := some uptoSmall }

/-- 'signalbenchlaw21.SyncDecodes', WHERE WHAT IT READS IS OF BULK AT MOST 1048576: true; the input reads as it did. -/
def syncDecodesUptoRow : OpenClaim := { program := "ytbggkaofkohecaa", sum := "b3179484396be81e25056baf1c374b9c93bfc96040e372699b9fa1f2c1b0498c", func := "signalbench/signalbenchlaw21.SyncDecodes", spec := "syncDecodes", apart := false, narrowed := true }
def SyncDecodesUptoSaid : Prop := syncDecodesUptoRow.holds Try.pinned (OpenSpec.upto syncDecodesSpec)

/-- 'signalbenchlaw21.SyncEncodes', WHERE WHAT IT READS IS OF BULK AT MOST 1048576: true; the input reads as it did. -/
def syncEncodesUptoRow : OpenClaim := { program := "ytbggkaofkohecaa", sum := "b3179484396be81e25056baf1c374b9c93bfc96040e372699b9fa1f2c1b0498c", func := "signalbench/signalbenchlaw21.SyncEncodes", spec := "syncEncodes", apart := false, narrowed := true }
def SyncEncodesUptoSaid : Prop := syncEncodesUptoRow.holds Try.pinned (OpenSpec.upto syncEncodesSpec)

/-- 'signalbenchlaw21.SyncRoundTrips', WHERE WHAT IT READS IS OF BULK AT MOST 1048576: true; the input reads as it did. -/
def syncRoundTripsUptoRow : OpenClaim := { program := "ytbggkaofkohecaa", sum := "b3179484396be81e25056baf1c374b9c93bfc96040e372699b9fa1f2c1b0498c", func := "signalbench/signalbenchlaw21.SyncRoundTrips", spec := "syncRoundTrips", apart := false, narrowed := true }
def SyncRoundTripsUptoSaid : Prop := syncRoundTripsUptoRow.holds Try.pinned (OpenSpec.upto syncRoundTripsSpec)

/-- 'signalbenchlaw21.SyncFirst', WHERE WHAT IT READS IS OF BULK AT MOST 1048576: true; the input reads as it did. -/
def syncFirstUptoRow : OpenClaim := { program := "ytbggkaofkohecaa", sum := "b3179484396be81e25056baf1c374b9c93bfc96040e372699b9fa1f2c1b0498c", func := "signalbench/signalbenchlaw21.SyncFirst", spec := "syncFirst", apart := false, narrowed := true }
def SyncFirstUptoSaid : Prop := syncFirstUptoRow.holds Try.pinned (OpenSpec.upto syncFirstSpec)

/-- 'signalbenchlaw21.SyncAborts', WHERE WHAT IT READS IS OF BULK AT MOST 1048576: true; the input reads as it did. -/
def syncAbortsUptoRow : OpenClaim := { program := "ytbggkaofkohecaa", sum := "b3179484396be81e25056baf1c374b9c93bfc96040e372699b9fa1f2c1b0498c", func := "signalbench/signalbenchlaw21.SyncAborts", spec := "syncAborts", apart := false, narrowed := true }
def SyncAbortsUptoSaid : Prop := syncAbortsUptoRow.holds Try.pinned (OpenSpec.upto syncAbortsSpec)

end Rows
end Go.Proofs.Ytbggkaofkohecaa
