/-
  DERIVED. GIVEN WITH THE SEED: THE CARDS: each row of YtmalhgidhieamaaDoorRows.lean that lists a variable, with what it lists TIED to the program's text (the seventh form; the later family's looks); each row that meets fmt, with fmt's text TOLD by the authors' own Lean function (tested against real Go, not proved from fmt's source: count such statements apart). THE CARD IS WHAT COUNTS. Prove the row's statement (the work); the ties are given (YtmalhgidhieamaaDoorTie.lean); close each card by the builder's one call (the guide's Derived/Test/ToyasCard.lean, 'card_holds'). Laid BY PROGRAM, IN A SANDBOX (cutbox-door.mjs). By AI agents, Wed Nov 11 2026. No macro, syntax, notation, axiom, sorry.
-/
import Derived.Test.YtmalhgidhieamaaDoorRows
import GoSem.ClaimSeven
namespace Go.Proofs.YtmalhgidhieamaaDoor
namespace Rows

/-- THE TIED CARD OF 'signalbenchlaw30.ModbusDecodes'. -/
def modbusDecodesCard : Claim7 := { stood := { row := modbusDecodesRow, standIns := [], harness := (true, "f773fa12aaad2539bb970bf24055bb3dfbdaf1786eb5d4c94eb70bdcc7e089b6"), looks := false }, kinds := [], alts := [], laidByText := true, laidKinds := [.data], laidTests := true, laidLooks := .later }
def ModbusDecodesCardSaid : Prop := Claim7.holds Tryd.pinned (.plain (OpenSpec.ofChange modbusDecodesSpec)) modbusDecodesCard

/-- THE TIED CARD OF 'signalbenchlaw30.ModbusEncodes'. -/
def modbusEncodesCard : Claim7 := { stood := { row := modbusEncodesRow, standIns := [], harness := (true, "f773fa12aaad2539bb970bf24055bb3dfbdaf1786eb5d4c94eb70bdcc7e089b6"), looks := false }, kinds := [], alts := [], laidByText := true, laidKinds := [.data], laidTests := true, laidLooks := .later }
def ModbusEncodesCardSaid : Prop := Claim7.holds Tryd.pinned (.plain (OpenSpec.ofChange modbusEncodesSpec)) modbusEncodesCard

/-- THE TIED CARD OF 'signalbenchlaw30.ModbusRoundTrips'. -/
def modbusRoundTripsCard : Claim7 := { stood := { row := modbusRoundTripsRow, standIns := [], harness := (true, "f773fa12aaad2539bb970bf24055bb3dfbdaf1786eb5d4c94eb70bdcc7e089b6"), looks := false }, kinds := [], alts := [], laidByText := true, laidKinds := [.data], laidTests := true, laidLooks := .later }
def ModbusRoundTripsCardSaid : Prop := Claim7.holds Tryd.pinned (.plain (OpenSpec.ofChange modbusRoundTripsSpec)) modbusRoundTripsCard

/-- THE TIED CARD OF 'signalbenchlaw30.ModbusDetects'. -/
def modbusDetectsCard : Claim7 := { stood := { row := modbusDetectsRow, standIns := [], harness := (true, "f773fa12aaad2539bb970bf24055bb3dfbdaf1786eb5d4c94eb70bdcc7e089b6"), looks := false }, kinds := [], alts := [], laidByText := true, laidKinds := [.data], laidTests := true, laidLooks := .later }
def ModbusDetectsCardSaid : Prop := Claim7.holds Tryd.pinned (.plain (OpenSpec.ofChange modbusDetectsSpec)) modbusDetectsCard

/-- THE TIED CARD OF 'signalbenchlaw30.ModbusGaps'. -/
def modbusGapsCard : Claim7 := { stood := { row := modbusGapsRow, standIns := [], harness := (true, "f773fa12aaad2539bb970bf24055bb3dfbdaf1786eb5d4c94eb70bdcc7e089b6"), looks := false }, kinds := [], alts := [], laidByText := true, laidKinds := [.data], laidTests := true, laidLooks := .later }
def ModbusGapsCardSaid : Prop := Claim7.holds Tryd.pinned (.plain (OpenSpec.ofChange modbusGapsSpec)) modbusGapsCard

/-- THE SECOND FORM's CARD OF 'signalbenchlaw30.ModbusDecodes'. -/
def modbusDecodesUptoCard : Claim7 := { stood := { row := modbusDecodesUptoRow, standIns := [], harness := (true, "f773fa12aaad2539bb970bf24055bb3dfbdaf1786eb5d4c94eb70bdcc7e089b6"), looks := false }, kinds := [], alts := [], laidByText := true, laidKinds := [.data], laidTests := true, laidLooks := .later }
def ModbusDecodesUptoCardSaid : Prop := Claim7.holds Tryd.pinned (.plain (OpenSpec.upto modbusDecodesSpec)) modbusDecodesUptoCard

/-- THE SECOND FORM's CARD OF 'signalbenchlaw30.ModbusEncodes'. -/
def modbusEncodesUptoCard : Claim7 := { stood := { row := modbusEncodesUptoRow, standIns := [], harness := (true, "f773fa12aaad2539bb970bf24055bb3dfbdaf1786eb5d4c94eb70bdcc7e089b6"), looks := false }, kinds := [], alts := [], laidByText := true, laidKinds := [.data], laidTests := true, laidLooks := .later }
def ModbusEncodesUptoCardSaid : Prop := Claim7.holds Tryd.pinned (.plain (OpenSpec.upto modbusEncodesSpec)) modbusEncodesUptoCard

/-- THE SECOND FORM's CARD OF 'signalbenchlaw30.ModbusRoundTrips'. -/
def modbusRoundTripsUptoCard : Claim7 := { stood := { row := modbusRoundTripsUptoRow, standIns := [], harness := (true, "f773fa12aaad2539bb970bf24055bb3dfbdaf1786eb5d4c94eb70bdcc7e089b6"), looks := false }, kinds := [], alts := [], laidByText := true, laidKinds := [.data], laidTests := true, laidLooks := .later }
def ModbusRoundTripsUptoCardSaid : Prop := Claim7.holds Tryd.pinned (.plain (OpenSpec.upto modbusRoundTripsSpec)) modbusRoundTripsUptoCard

/-- THE SECOND FORM's CARD OF 'signalbenchlaw30.ModbusDetects'. -/
def modbusDetectsUptoCard : Claim7 := { stood := { row := modbusDetectsUptoRow, standIns := [], harness := (true, "f773fa12aaad2539bb970bf24055bb3dfbdaf1786eb5d4c94eb70bdcc7e089b6"), looks := false }, kinds := [], alts := [], laidByText := true, laidKinds := [.data], laidTests := true, laidLooks := .later }
def ModbusDetectsUptoCardSaid : Prop := Claim7.holds Tryd.pinned (.plain (OpenSpec.upto modbusDetectsSpec)) modbusDetectsUptoCard

/-- THE SECOND FORM's CARD OF 'signalbenchlaw30.ModbusGaps'. -/
def modbusGapsUptoCard : Claim7 := { stood := { row := modbusGapsUptoRow, standIns := [], harness := (true, "f773fa12aaad2539bb970bf24055bb3dfbdaf1786eb5d4c94eb70bdcc7e089b6"), looks := false }, kinds := [], alts := [], laidByText := true, laidKinds := [.data], laidTests := true, laidLooks := .later }
def ModbusGapsUptoCardSaid : Prop := Claim7.holds Tryd.pinned (.plain (OpenSpec.upto modbusGapsSpec)) modbusGapsUptoCard
end Rows
end Go.Proofs.YtmalhgidhieamaaDoor
