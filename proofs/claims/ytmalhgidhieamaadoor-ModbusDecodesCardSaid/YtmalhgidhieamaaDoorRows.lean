/-
  NARROWER THAN 'FOR EVERY INPUT', by the rows' own cells (each row's printed sentence says how): ModbusDecodes: laid · ModbusEncodes: laid · ModbusRoundTrips: laid · ModbusDetects: laid · ModbusGaps: laid.
  DERIVED. THE GIVEN ROWS OF THIS SEAT. 5 by the template 'for every input the law returns true; each argument reads behind the call as it read before'; 0 by the template 'total and deterministic' (their statements: YtmalhgidhieamaaDoorTotals.lean).
  GIVEN WITH THE SEED: the statements are not yours to turn. If you find one false, say at which input.
  Laid BY PROGRAM, IN A SANDBOX (cutbox-rows.mjs): the forced cells as the released guide's own fill.sh prints them over the translation b39c0cdc29428270… (all of the seat's roots in one cut). By AI agents, Wed Nov 11 2026. No macro, syntax, notation, axiom, sorry.
-/
import Derived.Test.YtmalhgidhieamaaDoorChecked
import GoSem.Claim
import GoSem.ClaimJoined
import GoSem.ClaimMapViews
import Derived.JoinedTies
import Derived.KernelRfl
namespace Go.Proofs.YtmalhgidhieamaaDoor
/- THE CELL 'sum', in the pinned program and in every row, IS THE sha256 OF THE DUMP (.gsa) THAT YtmalhgidhieamaaDoorProg.lean LOADS. Nothing in Lean hashes anything: it is a label: what it is worth is what the hold of that sum in a sandbox is worth. -/
noncomputable def Tryd.pinned : Pinned := { name := "ytmalhgidhieamaadoor", sum := "b39c0cdc294282701989ebe444b5b33148e022047287a7b83885db075b14af3b", checked := Tryd.checked }
namespace Rows
def none {H : Type} : Left H := { results := [], args := [] }

/- WHAT THE LISTED PACKAGE-LEVEL VARIABLES READ AS WHEN THE CALL BEGINS. Each datum BY PROGRAM (the guide's laid-datum.mjs) off the statement by which the dump's own 'gosem.cut.vars' lays the variable. In a bare row this is a premise. The card (YtmalhgidhieamaaDoorCards.lean) ties it to the program's text. -/
def laid_signalbench_check_table {H : Type} : DataW H := .agg [.agg [.lit (.string [99, 97, 110, 49, 53]), .agg [.lit (.int .i64 15), .lit (.int .i64 17817), .lit (.int .i64 0), .lit (.int .i64 0), .lit (.bool false)]], .agg [.lit (.string [99, 114, 99, 49, 54, 109, 111, 100, 98, 117, 115]), .agg [.lit (.int .i64 16), .lit (.int .i64 32773), .lit (.int .i64 65535), .lit (.int .i64 0), .lit (.bool true)]], .agg [.lit (.string [99, 114, 99, 51, 50]), .agg [.lit (.int .i64 32), .lit (.int .i64 79764919), .lit (.int .i64 4294967295), .lit (.int .i64 4294967295), .lit (.bool true)]], .agg [.lit (.string [99, 114, 99, 53, 117, 115, 98]), .agg [.lit (.int .i64 5), .lit (.int .i64 5), .lit (.int .i64 31), .lit (.int .i64 31), .lit (.bool true)]], .agg [.lit (.string [99, 114, 99, 56]), .agg [.lit (.int .i64 8), .lit (.int .i64 7), .lit (.int .i64 0), .lit (.int .i64 0), .lit (.bool false)]]]

/-- 'signalbenchlaw30.ModbusDecodes': WHATEVER THE INPUT: true; the input reads as it did. -/
def modbusDecodesSpec : ChangeSpec := { name := "modbusDecodes", fn := fun _ => fun
  | [d1, d2] => { results := [.lit (.bool true)], args := [d1, d2] }
  | _ => none }
def modbusDecodesRow : OpenClaim := { program := "ytmalhgidhieamaadoor", sum := "b39c0cdc294282701989ebe444b5b33148e022047287a7b83885db075b14af3b", func := "signalbench/signalbenchlaw30.ModbusDecodes", spec := "modbusDecodes", unfollowed := true, recurses := true, named := ["signalbench/check.table"], apart := false, laid := [("signalbench/check.table", laid_signalbench_check_table)] }
def ModbusDecodesSaid : Prop := modbusDecodesRow.holds Tryd.pinned (OpenSpec.ofChange modbusDecodesSpec)

/-- ITS FALSE NEIGHBOUR: 'it returns false'. Refute it at one input. -/
def modbusDecodesWrong : ChangeSpec := { name := "modbusDecodes", fn := fun _ => fun
  | [d1, d2] => { results := [.lit (.bool false)], args := [d1, d2] }
  | _ => none }
def ModbusDecodesWrongFalsely : Prop := modbusDecodesRow.holds Tryd.pinned (OpenSpec.ofChange modbusDecodesWrong)

/-- 'signalbenchlaw30.ModbusEncodes': WHATEVER THE INPUT: true; the input reads as it did. -/
def modbusEncodesSpec : ChangeSpec := { name := "modbusEncodes", fn := fun _ => fun
  | [d1, d2] => { results := [.lit (.bool true)], args := [d1, d2] }
  | _ => none }
def modbusEncodesRow : OpenClaim := { program := "ytmalhgidhieamaadoor", sum := "b39c0cdc294282701989ebe444b5b33148e022047287a7b83885db075b14af3b", func := "signalbench/signalbenchlaw30.ModbusEncodes", spec := "modbusEncodes", unfollowed := true, recurses := true, named := ["signalbench/check.table"], apart := false, laid := [("signalbench/check.table", laid_signalbench_check_table)] }
def ModbusEncodesSaid : Prop := modbusEncodesRow.holds Tryd.pinned (OpenSpec.ofChange modbusEncodesSpec)

/-- ITS FALSE NEIGHBOUR: 'it returns false'. Refute it at one input. -/
def modbusEncodesWrong : ChangeSpec := { name := "modbusEncodes", fn := fun _ => fun
  | [d1, d2] => { results := [.lit (.bool false)], args := [d1, d2] }
  | _ => none }
def ModbusEncodesWrongFalsely : Prop := modbusEncodesRow.holds Tryd.pinned (OpenSpec.ofChange modbusEncodesWrong)

/-- 'signalbenchlaw30.ModbusRoundTrips': WHATEVER THE INPUT: true; the input reads as it did. -/
def modbusRoundTripsSpec : ChangeSpec := { name := "modbusRoundTrips", fn := fun _ => fun
  | [d1, d2, d3] => { results := [.lit (.bool true)], args := [d1, d2, d3] }
  | _ => none }
def modbusRoundTripsRow : OpenClaim := { program := "ytmalhgidhieamaadoor", sum := "b39c0cdc294282701989ebe444b5b33148e022047287a7b83885db075b14af3b", func := "signalbench/signalbenchlaw30.ModbusRoundTrips", spec := "modbusRoundTrips", unfollowed := true, recurses := true, named := ["signalbench/check.table"], apart := false, laid := [("signalbench/check.table", laid_signalbench_check_table)] }
def ModbusRoundTripsSaid : Prop := modbusRoundTripsRow.holds Tryd.pinned (OpenSpec.ofChange modbusRoundTripsSpec)

/-- ITS FALSE NEIGHBOUR: 'it returns false'. Refute it at one input. -/
def modbusRoundTripsWrong : ChangeSpec := { name := "modbusRoundTrips", fn := fun _ => fun
  | [d1, d2, d3] => { results := [.lit (.bool false)], args := [d1, d2, d3] }
  | _ => none }
def ModbusRoundTripsWrongFalsely : Prop := modbusRoundTripsRow.holds Tryd.pinned (OpenSpec.ofChange modbusRoundTripsWrong)

/-- 'signalbenchlaw30.ModbusDetects': WHATEVER THE INPUT: true; the input reads as it did. -/
def modbusDetectsSpec : ChangeSpec := { name := "modbusDetects", fn := fun _ => fun
  | [d1, d2, d3, d4, d5, d6] => { results := [.lit (.bool true)], args := [d1, d2, d3, d4, d5, d6] }
  | _ => none }
def modbusDetectsRow : OpenClaim := { program := "ytmalhgidhieamaadoor", sum := "b39c0cdc294282701989ebe444b5b33148e022047287a7b83885db075b14af3b", func := "signalbench/signalbenchlaw30.ModbusDetects", spec := "modbusDetects", unfollowed := true, recurses := true, named := ["signalbench/check.table"], apart := false, laid := [("signalbench/check.table", laid_signalbench_check_table)] }
def ModbusDetectsSaid : Prop := modbusDetectsRow.holds Tryd.pinned (OpenSpec.ofChange modbusDetectsSpec)

/-- ITS FALSE NEIGHBOUR: 'it returns false'. Refute it at one input. -/
def modbusDetectsWrong : ChangeSpec := { name := "modbusDetects", fn := fun _ => fun
  | [d1, d2, d3, d4, d5, d6] => { results := [.lit (.bool false)], args := [d1, d2, d3, d4, d5, d6] }
  | _ => none }
def ModbusDetectsWrongFalsely : Prop := modbusDetectsRow.holds Tryd.pinned (OpenSpec.ofChange modbusDetectsWrong)

/-- 'signalbenchlaw30.ModbusGaps': WHATEVER THE INPUT: true; the input reads as it did. -/
def modbusGapsSpec : ChangeSpec := { name := "modbusGaps", fn := fun _ => fun
  | [d1, d2, d3] => { results := [.lit (.bool true)], args := [d1, d2, d3] }
  | _ => none }
def modbusGapsRow : OpenClaim := { program := "ytmalhgidhieamaadoor", sum := "b39c0cdc294282701989ebe444b5b33148e022047287a7b83885db075b14af3b", func := "signalbench/signalbenchlaw30.ModbusGaps", spec := "modbusGaps", unfollowed := true, recurses := true, named := ["signalbench/check.table"], apart := false, laid := [("signalbench/check.table", laid_signalbench_check_table)] }
def ModbusGapsSaid : Prop := modbusGapsRow.holds Tryd.pinned (OpenSpec.ofChange modbusGapsSpec)

/-- ITS FALSE NEIGHBOUR: 'it returns false'. Refute it at one input. -/
def modbusGapsWrong : ChangeSpec := { name := "modbusGaps", fn := fun _ => fun
  | [d1, d2, d3] => { results := [.lit (.bool false)], args := [d1, d2, d3] }
  | _ => none }
def ModbusGapsWrongFalsely : Prop := modbusGapsRow.holds Tryd.pinned (OpenSpec.ofChange modbusGapsWrong)

/- THE SECOND FORM. 'bulk': how many values and letters a reading holds, each counted each time it is reached (what is shared counts as often as it is met; a slice's spare places count too). A statement '..UptoSaid' is the law's where the arguments, and the package variables that the reading takes, are together of bulk at most 1048576: NARROWER than '..Said'. Prove '..Said' where nothing that the law and all that it calls make is longer than what came in: it says more and counts as full. Else prove '..UptoSaid'. A law counts once. -/
mutual
def uptoBulk {H : Type} : DataW H → Nat
  | .lit (.string bytes) => bytes.length + 1
  | .lit _ => 1
  | .nil => 1
  | .ptr d => uptoBulk d + 1
  | .slice elems spare => uptoBulkAll elems + uptoBulkAll spare + 1
  | .agg parts => uptoBulkAll parts + 1
  | .iface _ d => uptoBulk d + 1
  | .map entries => uptoBulkEntries entries + 1
  | .held _ => 1
def uptoBulkAll {H : Type} : List (DataW H) → Nat
  | [] => 0
  | d :: r => uptoBulk d + uptoBulkAll r
def uptoBulkEntries {H : Type} : List (Lit × DataW H) → Nat
  | [] => 0
  | x :: r => uptoBulkEntry x + uptoBulkEntries r
def uptoBulkEntry {H : Type} : Lit × DataW H → Nat
  | (.string bytes, d) => bytes.length + uptoBulk d + 1
  | (_, d) => uptoBulk d + 1
 end
def uptoSmall : (H : Type) → List (DataW H) → Bool := fun _ ds => decide (uptoBulkAll ds ≤ 1048576)
def OpenSpec.upto (s : _root_.Go.ChangeSpec) : _root_.Go.OpenSpec := { _root_.Go.OpenSpec.ofChange s with cond := some uptoSmall }

/-- 'signalbenchlaw30.ModbusDecodes', WHERE WHAT IT READS IS OF BULK AT MOST 1048576: true; the input reads as it did. -/
def modbusDecodesUptoRow : OpenClaim := { program := "ytmalhgidhieamaadoor", sum := "b39c0cdc294282701989ebe444b5b33148e022047287a7b83885db075b14af3b", func := "signalbench/signalbenchlaw30.ModbusDecodes", spec := "modbusDecodes", unfollowed := true, recurses := true, named := ["signalbench/check.table"], apart := false, laid := [("signalbench/check.table", laid_signalbench_check_table)], narrowed := true }
def ModbusDecodesUptoSaid : Prop := modbusDecodesUptoRow.holds Tryd.pinned (OpenSpec.upto modbusDecodesSpec)

/-- 'signalbenchlaw30.ModbusEncodes', WHERE WHAT IT READS IS OF BULK AT MOST 1048576: true; the input reads as it did. -/
def modbusEncodesUptoRow : OpenClaim := { program := "ytmalhgidhieamaadoor", sum := "b39c0cdc294282701989ebe444b5b33148e022047287a7b83885db075b14af3b", func := "signalbench/signalbenchlaw30.ModbusEncodes", spec := "modbusEncodes", unfollowed := true, recurses := true, named := ["signalbench/check.table"], apart := false, laid := [("signalbench/check.table", laid_signalbench_check_table)], narrowed := true }
def ModbusEncodesUptoSaid : Prop := modbusEncodesUptoRow.holds Tryd.pinned (OpenSpec.upto modbusEncodesSpec)

/-- 'signalbenchlaw30.ModbusRoundTrips', WHERE WHAT IT READS IS OF BULK AT MOST 1048576: true; the input reads as it did. -/
def modbusRoundTripsUptoRow : OpenClaim := { program := "ytmalhgidhieamaadoor", sum := "b39c0cdc294282701989ebe444b5b33148e022047287a7b83885db075b14af3b", func := "signalbench/signalbenchlaw30.ModbusRoundTrips", spec := "modbusRoundTrips", unfollowed := true, recurses := true, named := ["signalbench/check.table"], apart := false, laid := [("signalbench/check.table", laid_signalbench_check_table)], narrowed := true }
def ModbusRoundTripsUptoSaid : Prop := modbusRoundTripsUptoRow.holds Tryd.pinned (OpenSpec.upto modbusRoundTripsSpec)

/-- 'signalbenchlaw30.ModbusDetects', WHERE WHAT IT READS IS OF BULK AT MOST 1048576: true; the input reads as it did. -/
def modbusDetectsUptoRow : OpenClaim := { program := "ytmalhgidhieamaadoor", sum := "b39c0cdc294282701989ebe444b5b33148e022047287a7b83885db075b14af3b", func := "signalbench/signalbenchlaw30.ModbusDetects", spec := "modbusDetects", unfollowed := true, recurses := true, named := ["signalbench/check.table"], apart := false, laid := [("signalbench/check.table", laid_signalbench_check_table)], narrowed := true }
def ModbusDetectsUptoSaid : Prop := modbusDetectsUptoRow.holds Tryd.pinned (OpenSpec.upto modbusDetectsSpec)

/-- 'signalbenchlaw30.ModbusGaps', WHERE WHAT IT READS IS OF BULK AT MOST 1048576: true; the input reads as it did. -/
def modbusGapsUptoRow : OpenClaim := { program := "ytmalhgidhieamaadoor", sum := "b39c0cdc294282701989ebe444b5b33148e022047287a7b83885db075b14af3b", func := "signalbench/signalbenchlaw30.ModbusGaps", spec := "modbusGaps", unfollowed := true, recurses := true, named := ["signalbench/check.table"], apart := false, laid := [("signalbench/check.table", laid_signalbench_check_table)], narrowed := true }
def ModbusGapsUptoSaid : Prop := modbusGapsUptoRow.holds Tryd.pinned (OpenSpec.upto modbusGapsSpec)

end Rows
end Go.Proofs.YtmalhgidhieamaaDoor
