/-
  NARROWER THAN 'FOR EVERY INPUT', by the rows' own cells (each row's printed sentence says how): CheckBits: laid · CheckBytes: laid · CheckSums: laid · CheckLimits: laid · CheckDetects: laid · CheckLinear: laid · CheckRight: laid · CheckParts: laid.
  DERIVED. THE GIVEN ROWS OF THIS SEAT. 8 by the template 'for every input the law returns true; each argument reads behind the call as it read before'; 0 by the template 'total and deterministic' (their statements: YteeejopgaegaoaaDoorTotals.lean).
  GIVEN WITH THE SEED: the statements are not yours to turn. If you find one false, say at which input.
  Laid BY PROGRAM, IN A SANDBOX (cutbox-rows.mjs): the forced cells as the released guide's own fill.sh prints them over the translation 9aac4825f1d253e6… (all of the seat's roots in one cut). By AI agents, Wed Nov 11 2026. No macro, syntax, notation, axiom, sorry.
-/
import Derived.Test.YteeejopgaegaoaaDoorChecked
import GoSem.Claim
import GoSem.ClaimJoined
import GoSem.ClaimMapViews
import Derived.JoinedTies
import Derived.KernelRfl
namespace Go.Proofs.YteeejopgaegaoaaDoor
/- THE CELL 'sum', in the pinned program and in every row, IS THE sha256 OF THE DUMP (.gsa) THAT YteeejopgaegaoaaDoorProg.lean LOADS. Nothing in Lean hashes anything: it is a label: what it is worth is what the hold of that sum in a sandbox is worth. -/
noncomputable def Tryd.pinned : Pinned := { name := "yteeejopgaegaoaadoor", sum := "9aac4825f1d253e623ae2983b9c9c79a9ad1807e86e8df4189ad9fde2bb713b9", checked := Tryd.checked }
namespace Rows
def none {H : Type} : Left H := { results := [], args := [] }

/- WHAT THE LISTED PACKAGE-LEVEL VARIABLES READ AS WHEN THE CALL BEGINS. Each datum BY PROGRAM (the guide's laid-datum.mjs) off the statement by which the dump's own 'gosem.cut.vars' lays the variable. In a bare row this is a premise. The card (YteeejopgaegaoaaDoorCards.lean) ties it to the program's text. -/
def laid_signalbench_check_table {H : Type} : DataW H := .agg [.agg [.lit (.string [99, 97, 110, 49, 53]), .agg [.lit (.int .i64 15), .lit (.int .i64 17817), .lit (.int .i64 0), .lit (.int .i64 0), .lit (.bool false)]], .agg [.lit (.string [99, 114, 99, 49, 54, 109, 111, 100, 98, 117, 115]), .agg [.lit (.int .i64 16), .lit (.int .i64 32773), .lit (.int .i64 65535), .lit (.int .i64 0), .lit (.bool true)]], .agg [.lit (.string [99, 114, 99, 51, 50]), .agg [.lit (.int .i64 32), .lit (.int .i64 79764919), .lit (.int .i64 4294967295), .lit (.int .i64 4294967295), .lit (.bool true)]], .agg [.lit (.string [99, 114, 99, 53, 117, 115, 98]), .agg [.lit (.int .i64 5), .lit (.int .i64 5), .lit (.int .i64 31), .lit (.int .i64 31), .lit (.bool true)]], .agg [.lit (.string [99, 114, 99, 56]), .agg [.lit (.int .i64 8), .lit (.int .i64 7), .lit (.int .i64 0), .lit (.int .i64 0), .lit (.bool false)]]]

/-- 'signalbenchlaw04.CheckBits': WHATEVER THE INPUT: true; the input reads as it did. -/
def checkBitsSpec : ChangeSpec := { name := "checkBits", fn := fun _ => fun
  | [d1, d2] => { results := [.lit (.bool true)], args := [d1, d2] }
  | _ => none }
def checkBitsRow : OpenClaim := { program := "yteeejopgaegaoaadoor", sum := "9aac4825f1d253e623ae2983b9c9c79a9ad1807e86e8df4189ad9fde2bb713b9", func := "signalbench/signalbenchlaw04.CheckBits", spec := "checkBits", named := ["signalbench/check.table"], apart := false, laid := [("signalbench/check.table", laid_signalbench_check_table)] }
def CheckBitsSaid : Prop := checkBitsRow.holds Tryd.pinned (OpenSpec.ofChange checkBitsSpec)

/-- ITS FALSE NEIGHBOUR: 'it returns false'. Refute it at one input. -/
def checkBitsWrong : ChangeSpec := { name := "checkBits", fn := fun _ => fun
  | [d1, d2] => { results := [.lit (.bool false)], args := [d1, d2] }
  | _ => none }
def CheckBitsWrongFalsely : Prop := checkBitsRow.holds Tryd.pinned (OpenSpec.ofChange checkBitsWrong)

/-- 'signalbenchlaw04.CheckBytes': WHATEVER THE INPUT: true; the input reads as it did. -/
def checkBytesSpec : ChangeSpec := { name := "checkBytes", fn := fun _ => fun
  | [d1, d2] => { results := [.lit (.bool true)], args := [d1, d2] }
  | _ => none }
def checkBytesRow : OpenClaim := { program := "yteeejopgaegaoaadoor", sum := "9aac4825f1d253e623ae2983b9c9c79a9ad1807e86e8df4189ad9fde2bb713b9", func := "signalbench/signalbenchlaw04.CheckBytes", spec := "checkBytes", named := ["signalbench/check.table"], apart := false, laid := [("signalbench/check.table", laid_signalbench_check_table)] }
def CheckBytesSaid : Prop := checkBytesRow.holds Tryd.pinned (OpenSpec.ofChange checkBytesSpec)

/-- ITS FALSE NEIGHBOUR: 'it returns false'. Refute it at one input. -/
def checkBytesWrong : ChangeSpec := { name := "checkBytes", fn := fun _ => fun
  | [d1, d2] => { results := [.lit (.bool false)], args := [d1, d2] }
  | _ => none }
def CheckBytesWrongFalsely : Prop := checkBytesRow.holds Tryd.pinned (OpenSpec.ofChange checkBytesWrong)

/-- 'signalbenchlaw04.CheckSums': WHATEVER THE INPUT: true; the input reads as it did. -/
def checkSumsSpec : ChangeSpec := { name := "checkSums", fn := fun _ => fun
  | [d] => { results := [.lit (.bool true)], args := [d] }
  | _ => none }
def checkSumsRow : OpenClaim := { program := "yteeejopgaegaoaadoor", sum := "9aac4825f1d253e623ae2983b9c9c79a9ad1807e86e8df4189ad9fde2bb713b9", func := "signalbench/signalbenchlaw04.CheckSums", spec := "checkSums", named := ["signalbench/check.table"], apart := false, laid := [("signalbench/check.table", laid_signalbench_check_table)] }
def CheckSumsSaid : Prop := checkSumsRow.holds Tryd.pinned (OpenSpec.ofChange checkSumsSpec)

/-- ITS FALSE NEIGHBOUR: 'it returns false'. Refute it at one input. -/
def checkSumsWrong : ChangeSpec := { name := "checkSums", fn := fun _ => fun
  | [d] => { results := [.lit (.bool false)], args := [d] }
  | _ => none }
def CheckSumsWrongFalsely : Prop := checkSumsRow.holds Tryd.pinned (OpenSpec.ofChange checkSumsWrong)

/-- 'signalbenchlaw04.CheckLimits': WHATEVER THE INPUT: true; the input reads as it did. -/
def checkLimitsSpec : ChangeSpec := { name := "checkLimits", fn := fun _ => fun
  | [d] => { results := [.lit (.bool true)], args := [d] }
  | _ => none }
def checkLimitsRow : OpenClaim := { program := "yteeejopgaegaoaadoor", sum := "9aac4825f1d253e623ae2983b9c9c79a9ad1807e86e8df4189ad9fde2bb713b9", func := "signalbench/signalbenchlaw04.CheckLimits", spec := "checkLimits", named := ["signalbench/check.table"], apart := false, laid := [("signalbench/check.table", laid_signalbench_check_table)] }
def CheckLimitsSaid : Prop := checkLimitsRow.holds Tryd.pinned (OpenSpec.ofChange checkLimitsSpec)

/-- ITS FALSE NEIGHBOUR: 'it returns false'. Refute it at one input. -/
def checkLimitsWrong : ChangeSpec := { name := "checkLimits", fn := fun _ => fun
  | [d] => { results := [.lit (.bool false)], args := [d] }
  | _ => none }
def CheckLimitsWrongFalsely : Prop := checkLimitsRow.holds Tryd.pinned (OpenSpec.ofChange checkLimitsWrong)

/-- 'signalbenchlaw04.CheckDetects': WHATEVER THE INPUT: true; the input reads as it did. -/
def checkDetectsSpec : ChangeSpec := { name := "checkDetects", fn := fun _ => fun
  | [d1, d2, d3] => { results := [.lit (.bool true)], args := [d1, d2, d3] }
  | _ => none }
def checkDetectsRow : OpenClaim := { program := "yteeejopgaegaoaadoor", sum := "9aac4825f1d253e623ae2983b9c9c79a9ad1807e86e8df4189ad9fde2bb713b9", func := "signalbench/signalbenchlaw04.CheckDetects", spec := "checkDetects", named := ["signalbench/check.table"], apart := false, laid := [("signalbench/check.table", laid_signalbench_check_table)] }
def CheckDetectsSaid : Prop := checkDetectsRow.holds Tryd.pinned (OpenSpec.ofChange checkDetectsSpec)

/-- ITS FALSE NEIGHBOUR: 'it returns false'. Refute it at one input. -/
def checkDetectsWrong : ChangeSpec := { name := "checkDetects", fn := fun _ => fun
  | [d1, d2, d3] => { results := [.lit (.bool false)], args := [d1, d2, d3] }
  | _ => none }
def CheckDetectsWrongFalsely : Prop := checkDetectsRow.holds Tryd.pinned (OpenSpec.ofChange checkDetectsWrong)

/-- 'signalbenchlaw04.CheckLinear': WHATEVER THE INPUT: true; the input reads as it did. -/
def checkLinearSpec : ChangeSpec := { name := "checkLinear", fn := fun _ => fun
  | [d1, d2] => { results := [.lit (.bool true)], args := [d1, d2] }
  | _ => none }
def checkLinearRow : OpenClaim := { program := "yteeejopgaegaoaadoor", sum := "9aac4825f1d253e623ae2983b9c9c79a9ad1807e86e8df4189ad9fde2bb713b9", func := "signalbench/signalbenchlaw04.CheckLinear", spec := "checkLinear", named := ["signalbench/check.table"], apart := false, laid := [("signalbench/check.table", laid_signalbench_check_table)] }
def CheckLinearSaid : Prop := checkLinearRow.holds Tryd.pinned (OpenSpec.ofChange checkLinearSpec)

/-- ITS FALSE NEIGHBOUR: 'it returns false'. Refute it at one input. -/
def checkLinearWrong : ChangeSpec := { name := "checkLinear", fn := fun _ => fun
  | [d1, d2] => { results := [.lit (.bool false)], args := [d1, d2] }
  | _ => none }
def CheckLinearWrongFalsely : Prop := checkLinearRow.holds Tryd.pinned (OpenSpec.ofChange checkLinearWrong)

/-- 'signalbenchlaw04.CheckRight': WHATEVER THE INPUT: true; the input reads as it did. -/
def checkRightSpec : ChangeSpec := { name := "checkRight", fn := fun _ => fun
  | [d1, d2] => { results := [.lit (.bool true)], args := [d1, d2] }
  | _ => none }
def checkRightRow : OpenClaim := { program := "yteeejopgaegaoaadoor", sum := "9aac4825f1d253e623ae2983b9c9c79a9ad1807e86e8df4189ad9fde2bb713b9", func := "signalbench/signalbenchlaw04.CheckRight", spec := "checkRight", named := ["signalbench/check.table"], apart := false, laid := [("signalbench/check.table", laid_signalbench_check_table)] }
def CheckRightSaid : Prop := checkRightRow.holds Tryd.pinned (OpenSpec.ofChange checkRightSpec)

/-- ITS FALSE NEIGHBOUR: 'it returns false'. Refute it at one input. -/
def checkRightWrong : ChangeSpec := { name := "checkRight", fn := fun _ => fun
  | [d1, d2] => { results := [.lit (.bool false)], args := [d1, d2] }
  | _ => none }
def CheckRightWrongFalsely : Prop := checkRightRow.holds Tryd.pinned (OpenSpec.ofChange checkRightWrong)

/-- 'signalbenchlaw04.CheckParts': WHATEVER THE INPUT: true; the input reads as it did. -/
def checkPartsSpec : ChangeSpec := { name := "checkParts", fn := fun _ => fun
  | [d1, d2, d3] => { results := [.lit (.bool true)], args := [d1, d2, d3] }
  | _ => none }
def checkPartsRow : OpenClaim := { program := "yteeejopgaegaoaadoor", sum := "9aac4825f1d253e623ae2983b9c9c79a9ad1807e86e8df4189ad9fde2bb713b9", func := "signalbench/signalbenchlaw04.CheckParts", spec := "checkParts", named := ["signalbench/check.table"], apart := false, laid := [("signalbench/check.table", laid_signalbench_check_table)] }
def CheckPartsSaid : Prop := checkPartsRow.holds Tryd.pinned (OpenSpec.ofChange checkPartsSpec)

/-- ITS FALSE NEIGHBOUR: 'it returns false'. Refute it at one input. -/
def checkPartsWrong : ChangeSpec := { name := "checkParts", fn := fun _ => fun
  | [d1, d2, d3] => { results := [.lit (.bool false)], args := [d1, d2, d3] }
  | _ => none }
def CheckPartsWrongFalsely : Prop := checkPartsRow.holds Tryd.pinned (OpenSpec.ofChange checkPartsWrong)

/- THE SECOND FORM. 'bulk': how many values and letters a reading holds, each counted each time it is reached (what is shared counts as often as it is met; a slice's spare places count too). A statement '..UptoSaid' is the law's where the arguments, and the package variables that the reading takes, are together of bulk at most 1048576: NARROWER than '..Said'. Prove '..Said' where nothing that the law and all that it calls make is longer than what came in: it says more and counts as full. Else prove '..UptoSaid'. A law counts once. -/
mutual
def uptoBulk {H : Type} : DataW H → Nat
  | .lit (.string bytes) => bytes.length + 1
  | .lit _ => 1
  | .nil => 1
  | .ptr d => uptoBulk d + 1
  | .slice elems spare => uptoBulkAll elems + uptoBulkAll spare + 1
  | .agg parts => uptoBulkAll parts + 1
  | .iface _ d => uptoBulk d + 1
  | .map entries => uptoBulkEntries entries + 1
  | .held _ => 1
def uptoBulkAll {H : Type} : List (DataW H) → Nat
  | [] => 0
  | d :: r => uptoBulk d + uptoBulkAll r
def uptoBulkEntries {H : Type} : List (Lit × DataW H) → Nat
  | [] => 0
  | x :: r => uptoBulkEntry x + uptoBulkEntries r
def uptoBulkEntry {H : Type} : Lit × DataW H → Nat
  | (.string bytes, d) => bytes.length + uptoBulk d + 1
  | (_, d) => uptoBulk d + 1
 end
def uptoSmall : (H : Type) → List (DataW H) → Bool := fun _ ds => decide (uptoBulkAll ds ≤ 1048576)
def OpenSpec.upto (s : _root_.Go.ChangeSpec) : _root_.Go.OpenSpec := { _root_.Go.OpenSpec.ofChange s with cond := some uptoSmall }

/-- 'signalbenchlaw04.CheckBits', WHERE WHAT IT READS IS OF BULK AT MOST 1048576: true; the input reads as it did. -/
def checkBitsUptoRow : OpenClaim := { program := "yteeejopgaegaoaadoor", sum := "9aac4825f1d253e623ae2983b9c9c79a9ad1807e86e8df4189ad9fde2bb713b9", func := "signalbench/signalbenchlaw04.CheckBits", spec := "checkBits", named := ["signalbench/check.table"], apart := false, laid := [("signalbench/check.table", laid_signalbench_check_table)], narrowed := true }
def CheckBitsUptoSaid : Prop := checkBitsUptoRow.holds Tryd.pinned (OpenSpec.upto checkBitsSpec)

/-- 'signalbenchlaw04.CheckBytes', WHERE WHAT IT READS IS OF BULK AT MOST 1048576: true; the input reads as it did. -/
def checkBytesUptoRow : OpenClaim := { program := "yteeejopgaegaoaadoor", sum := "9aac4825f1d253e623ae2983b9c9c79a9ad1807e86e8df4189ad9fde2bb713b9", func := "signalbench/signalbenchlaw04.CheckBytes", spec := "checkBytes", named := ["signalbench/check.table"], apart := false, laid := [("signalbench/check.table", laid_signalbench_check_table)], narrowed := true }
def CheckBytesUptoSaid : Prop := checkBytesUptoRow.holds Tryd.pinned (OpenSpec.upto checkBytesSpec)

/-- 'signalbenchlaw04.CheckSums', WHERE WHAT IT READS IS OF BULK AT MOST 1048576: true; the input reads as it did. -/
def checkSumsUptoRow : OpenClaim := { program := "yteeejopgaegaoaadoor", sum := "9aac4825f1d253e623ae2983b9c9c79a9ad1807e86e8df4189ad9fde2bb713b9", func := "signalbench/signalbenchlaw04.CheckSums", spec := "checkSums", named := ["signalbench/check.table"], apart := false, laid := [("signalbench/check.table", laid_signalbench_check_table)], narrowed := true }
def CheckSumsUptoSaid : Prop := checkSumsUptoRow.holds Tryd.pinned (OpenSpec.upto checkSumsSpec)

/-- 'signalbenchlaw04.CheckLimits', WHERE WHAT IT READS IS OF BULK AT MOST 1048576: true; the input reads as it did. -/
def checkLimitsUptoRow : OpenClaim := { program := "yteeejopgaegaoaadoor", sum := "9aac4825f1d253e623ae2983b9c9c79a9ad1807e86e8df4189ad9fde2bb713b9", func := "signalbench/signalbenchlaw04.CheckLimits", spec := "checkLimits", named := ["signalbench/check.table"], apart := false, laid := [("signalbench/check.table", laid_signalbench_check_table)], narrowed := true }
def CheckLimitsUptoSaid : Prop := checkLimitsUptoRow.holds Tryd.pinned (OpenSpec.upto checkLimitsSpec)

/-- 'signalbenchlaw04.CheckDetects', WHERE WHAT IT READS IS OF BULK AT MOST 1048576: true; the input reads as it did. -/
def checkDetectsUptoRow : OpenClaim := { program := "yteeejopgaegaoaadoor", sum := "9aac4825f1d253e623ae2983b9c9c79a9ad1807e86e8df4189ad9fde2bb713b9", func := "signalbench/signalbenchlaw04.CheckDetects", spec := "checkDetects", named := ["signalbench/check.table"], apart := false, laid := [("signalbench/check.table", laid_signalbench_check_table)], narrowed := true }
def CheckDetectsUptoSaid : Prop := checkDetectsUptoRow.holds Tryd.pinned (OpenSpec.upto checkDetectsSpec)

/-- 'signalbenchlaw04.CheckLinear', WHERE WHAT IT READS IS OF BULK AT MOST 1048576: true; the input reads as it did. -/
def checkLinearUptoRow : OpenClaim := { program := "yteeejopgaegaoaadoor", sum := "9aac4825f1d253e623ae2983b9c9c79a9ad1807e86e8df4189ad9fde2bb713b9", func := "signalbench/signalbenchlaw04.CheckLinear", spec := "checkLinear", named := ["signalbench/check.table"], apart := false, laid := [("signalbench/check.table", laid_signalbench_check_table)], narrowed := true }
def CheckLinearUptoSaid : Prop := checkLinearUptoRow.holds Tryd.pinned (OpenSpec.upto checkLinearSpec)

/-- 'signalbenchlaw04.CheckRight', WHERE WHAT IT READS IS OF BULK AT MOST 1048576: true; the input reads as it did. -/
def checkRightUptoRow : OpenClaim := { program := "yteeejopgaegaoaadoor", sum := "9aac4825f1d253e623ae2983b9c9c79a9ad1807e86e8df4189ad9fde2bb713b9", func := "signalbench/signalbenchlaw04.CheckRight", spec := "checkRight", named := ["signalbench/check.table"], apart := false, laid := [("signalbench/check.table", laid_signalbench_check_table)], narrowed := true }
def CheckRightUptoSaid : Prop := checkRightUptoRow.holds Tryd.pinned (OpenSpec.upto checkRightSpec)

/-- 'signalbenchlaw04.CheckParts', WHERE WHAT IT READS IS OF BULK AT MOST 1048576: true; the input reads as it did. -/
def checkPartsUptoRow : OpenClaim := { program := "yteeejopgaegaoaadoor", sum := "9aac4825f1d253e623ae2983b9c9c79a9ad1807e86e8df4189ad9fde2bb713b9", func := "signalbench/signalbenchlaw04.CheckParts", spec := "checkParts", named := ["signalbench/check.table"], apart := false, laid := [("signalbench/check.table", laid_signalbench_check_table)], narrowed := true }
def CheckPartsUptoSaid : Prop := checkPartsUptoRow.holds Tryd.pinned (OpenSpec.upto checkPartsSpec)

end Rows
end Go.Proofs.YteeejopgaegaoaaDoor
