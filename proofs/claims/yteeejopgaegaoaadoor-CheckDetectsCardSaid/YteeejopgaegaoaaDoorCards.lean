/-
  DERIVED. GIVEN WITH THE SEED: THE CARDS: each row of YteeejopgaegaoaaDoorRows.lean that lists a variable, with what it lists TIED to the program's text (the seventh form; the later family's looks); each row that meets fmt, with fmt's text TOLD by the authors' own Lean function (tested against real Go, not proved from fmt's source: count such statements apart). THE CARD IS WHAT COUNTS. Prove the row's statement (the work); the ties are given (YteeejopgaegaoaaDoorTie.lean); close each card by the builder's one call (the guide's Derived/Test/ToyasCard.lean, 'card_holds'). Laid BY PROGRAM, IN A SANDBOX (cutbox-door.mjs). By AI agents, Wed Nov 11 2026. No macro, syntax, notation, axiom, sorry.
-/
import Derived.Test.YteeejopgaegaoaaDoorRows
import GoSem.ClaimSeven
namespace Go.Proofs.YteeejopgaegaoaaDoor
namespace Rows

/-- THE TIED CARD OF 'signalbenchlaw04.CheckBits'. -/
def checkBitsCard : Claim7 := { stood := { row := checkBitsRow, standIns := [], harness := (true, "f3fdde34fba929fa1e2971609778690847d892c87972daf00f7596976e73d85a"), looks := false }, kinds := [], alts := [], laidByText := true, laidKinds := [.data], laidTests := true, laidLooks := .later }
def CheckBitsCardSaid : Prop := Claim7.holds Tryd.pinned (.plain (OpenSpec.ofChange checkBitsSpec)) checkBitsCard

/-- THE TIED CARD OF 'signalbenchlaw04.CheckBytes'. -/
def checkBytesCard : Claim7 := { stood := { row := checkBytesRow, standIns := [], harness := (true, "f3fdde34fba929fa1e2971609778690847d892c87972daf00f7596976e73d85a"), looks := false }, kinds := [], alts := [], laidByText := true, laidKinds := [.data], laidTests := true, laidLooks := .later }
def CheckBytesCardSaid : Prop := Claim7.holds Tryd.pinned (.plain (OpenSpec.ofChange checkBytesSpec)) checkBytesCard

/-- THE TIED CARD OF 'signalbenchlaw04.CheckSums'. -/
def checkSumsCard : Claim7 := { stood := { row := checkSumsRow, standIns := [], harness := (true, "f3fdde34fba929fa1e2971609778690847d892c87972daf00f7596976e73d85a"), looks := false }, kinds := [], alts := [], laidByText := true, laidKinds := [.data], laidTests := true, laidLooks := .later }
def CheckSumsCardSaid : Prop := Claim7.holds Tryd.pinned (.plain (OpenSpec.ofChange checkSumsSpec)) checkSumsCard

/-- THE TIED CARD OF 'signalbenchlaw04.CheckLimits'. -/
def checkLimitsCard : Claim7 := { stood := { row := checkLimitsRow, standIns := [], harness := (true, "f3fdde34fba929fa1e2971609778690847d892c87972daf00f7596976e73d85a"), looks := false }, kinds := [], alts := [], laidByText := true, laidKinds := [.data], laidTests := true, laidLooks := .later }
def CheckLimitsCardSaid : Prop := Claim7.holds Tryd.pinned (.plain (OpenSpec.ofChange checkLimitsSpec)) checkLimitsCard

/-- THE TIED CARD OF 'signalbenchlaw04.CheckDetects'. -/
def checkDetectsCard : Claim7 := { stood := { row := checkDetectsRow, standIns := [], harness := (true, "f3fdde34fba929fa1e2971609778690847d892c87972daf00f7596976e73d85a"), looks := false }, kinds := [], alts := [], laidByText := true, laidKinds := [.data], laidTests := true, laidLooks := .later }
def CheckDetectsCardSaid : Prop := Claim7.holds Tryd.pinned (.plain (OpenSpec.ofChange checkDetectsSpec)) checkDetectsCard

/-- THE TIED CARD OF 'signalbenchlaw04.CheckLinear'. -/
def checkLinearCard : Claim7 := { stood := { row := checkLinearRow, standIns := [], harness := (true, "f3fdde34fba929fa1e2971609778690847d892c87972daf00f7596976e73d85a"), looks := false }, kinds := [], alts := [], laidByText := true, laidKinds := [.data], laidTests := true, laidLooks := .later }
def CheckLinearCardSaid : Prop := Claim7.holds Tryd.pinned (.plain (OpenSpec.ofChange checkLinearSpec)) checkLinearCard

/-- THE TIED CARD OF 'signalbenchlaw04.CheckRight'. -/
def checkRightCard : Claim7 := { stood := { row := checkRightRow, standIns := [], harness := (true, "f3fdde34fba929fa1e2971609778690847d892c87972daf00f7596976e73d85a"), looks := false }, kinds := [], alts := [], laidByText := true, laidKinds := [.data], laidTests := true, laidLooks := .later }
def CheckRightCardSaid : Prop := Claim7.holds Tryd.pinned (.plain (OpenSpec.ofChange checkRightSpec)) checkRightCard

/-- THE TIED CARD OF 'signalbenchlaw04.CheckParts'. -/
def checkPartsCard : Claim7 := { stood := { row := checkPartsRow, standIns := [], harness := (true, "f3fdde34fba929fa1e2971609778690847d892c87972daf00f7596976e73d85a"), looks := false }, kinds := [], alts := [], laidByText := true, laidKinds := [.data], laidTests := true, laidLooks := .later }
def CheckPartsCardSaid : Prop := Claim7.holds Tryd.pinned (.plain (OpenSpec.ofChange checkPartsSpec)) checkPartsCard

/-- THE SECOND FORM's CARD OF 'signalbenchlaw04.CheckBits'. -/
def checkBitsUptoCard : Claim7 := { stood := { row := checkBitsUptoRow, standIns := [], harness := (true, "f3fdde34fba929fa1e2971609778690847d892c87972daf00f7596976e73d85a"), looks := false }, kinds := [], alts := [], laidByText := true, laidKinds := [.data], laidTests := true, laidLooks := .later }
def CheckBitsUptoCardSaid : Prop := Claim7.holds Tryd.pinned (.plain (OpenSpec.upto checkBitsSpec)) checkBitsUptoCard

/-- THE SECOND FORM's CARD OF 'signalbenchlaw04.CheckBytes'. -/
def checkBytesUptoCard : Claim7 := { stood := { row := checkBytesUptoRow, standIns := [], harness := (true, "f3fdde34fba929fa1e2971609778690847d892c87972daf00f7596976e73d85a"), looks := false }, kinds := [], alts := [], laidByText := true, laidKinds := [.data], laidTests := true, laidLooks := .later }
def CheckBytesUptoCardSaid : Prop := Claim7.holds Tryd.pinned (.plain (OpenSpec.upto checkBytesSpec)) checkBytesUptoCard

/-- THE SECOND FORM's CARD OF 'signalbenchlaw04.CheckSums'. -/
def checkSumsUptoCard : Claim7 := { stood := { row := checkSumsUptoRow, standIns := [], harness := (true, "f3fdde34fba929fa1e2971609778690847d892c87972daf00f7596976e73d85a"), looks := false }, kinds := [], alts := [], laidByText := true, laidKinds := [.data], laidTests := true, laidLooks := .later }
def CheckSumsUptoCardSaid : Prop := Claim7.holds Tryd.pinned (.plain (OpenSpec.upto checkSumsSpec)) checkSumsUptoCard

/-- THE SECOND FORM's CARD OF 'signalbenchlaw04.CheckLimits'. -/
def checkLimitsUptoCard : Claim7 := { stood := { row := checkLimitsUptoRow, standIns := [], harness := (true, "f3fdde34fba929fa1e2971609778690847d892c87972daf00f7596976e73d85a"), looks := false }, kinds := [], alts := [], laidByText := true, laidKinds := [.data], laidTests := true, laidLooks := .later }
def CheckLimitsUptoCardSaid : Prop := Claim7.holds Tryd.pinned (.plain (OpenSpec.upto checkLimitsSpec)) checkLimitsUptoCard

/-- THE SECOND FORM's CARD OF 'signalbenchlaw04.CheckDetects'. -/
def checkDetectsUptoCard : Claim7 := { stood := { row := checkDetectsUptoRow, standIns := [], harness := (true, "f3fdde34fba929fa1e2971609778690847d892c87972daf00f7596976e73d85a"), looks := false }, kinds := [], alts := [], laidByText := true, laidKinds := [.data], laidTests := true, laidLooks := .later }
def CheckDetectsUptoCardSaid : Prop := Claim7.holds Tryd.pinned (.plain (OpenSpec.upto checkDetectsSpec)) checkDetectsUptoCard

/-- THE SECOND FORM's CARD OF 'signalbenchlaw04.CheckLinear'. -/
def checkLinearUptoCard : Claim7 := { stood := { row := checkLinearUptoRow, standIns := [], harness := (true, "f3fdde34fba929fa1e2971609778690847d892c87972daf00f7596976e73d85a"), looks := false }, kinds := [], alts := [], laidByText := true, laidKinds := [.data], laidTests := true, laidLooks := .later }
def CheckLinearUptoCardSaid : Prop := Claim7.holds Tryd.pinned (.plain (OpenSpec.upto checkLinearSpec)) checkLinearUptoCard

/-- THE SECOND FORM's CARD OF 'signalbenchlaw04.CheckRight'. -/
def checkRightUptoCard : Claim7 := { stood := { row := checkRightUptoRow, standIns := [], harness := (true, "f3fdde34fba929fa1e2971609778690847d892c87972daf00f7596976e73d85a"), looks := false }, kinds := [], alts := [], laidByText := true, laidKinds := [.data], laidTests := true, laidLooks := .later }
def CheckRightUptoCardSaid : Prop := Claim7.holds Tryd.pinned (.plain (OpenSpec.upto checkRightSpec)) checkRightUptoCard

/-- THE SECOND FORM's CARD OF 'signalbenchlaw04.CheckParts'. -/
def checkPartsUptoCard : Claim7 := { stood := { row := checkPartsUptoRow, standIns := [], harness := (true, "f3fdde34fba929fa1e2971609778690847d892c87972daf00f7596976e73d85a"), looks := false }, kinds := [], alts := [], laidByText := true, laidKinds := [.data], laidTests := true, laidLooks := .later }
def CheckPartsUptoCardSaid : Prop := Claim7.holds Tryd.pinned (.plain (OpenSpec.upto checkPartsSpec)) checkPartsUptoCard
end Rows
end Go.Proofs.YteeejopgaegaoaaDoor
