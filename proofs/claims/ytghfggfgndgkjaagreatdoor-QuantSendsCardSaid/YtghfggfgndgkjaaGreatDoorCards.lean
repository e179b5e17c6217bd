/-
  DERIVED. GIVEN WITH THE SEED: THE CARDS: each row of YtghfggfgndgkjaaGreatDoorRows.lean that lists a variable, with what it lists TIED to the program's text (the seventh form; the later family's looks); each row that meets fmt, with fmt's text TOLD by the authors' own Lean function (tested against real Go, not proved from fmt's source: count such statements apart). THE CARD IS WHAT COUNTS. Prove the row's statement (the work); the ties are given (YtghfggfgndgkjaaGreatDoorTie.lean); close each card by the builder's one call (the guide's Derived/Test/ToyasCard.lean, 'card_holds'). Laid BY PROGRAM, IN A SANDBOX (cutbox-door.mjs). By AI agents, Wed Nov 11 2026. No macro, syntax, notation, axiom, sorry.
-/
import Derived.Test.YtghfggfgndgkjaaGreatDoorRows
import GoSem.ClaimSeven
namespace Go.Proofs.YtghfggfgndgkjaaGreatDoor
namespace Rows

/-- THE TIED CARD OF 'marcheslaw21.QuantTells'. -/
def quantTellsCard : Claim7 := { stood := { row := quantTellsRow, standIns := [], harness := (true, "61727df975015729602ed47df38ccbdec7b81ca75035d99823f35858524f04f9"), looks := true }, kinds := [], alts := [], laidByText := true, laidKinds := [.data, .data, .data, .data, .data, .data, .data], laidTests := true, laidLooks := .later }
def QuantTellsCardSaid : Prop := Claim7.holds Tryz.pinned (.plain (OpenSpec.ofChange quantTellsSpec)) quantTellsCard

/-- THE TIED CARD OF 'marcheslaw28.InterpTells'. -/
def interpTellsCard : Claim7 := { stood := { row := interpTellsRow, standIns := [], harness := (true, "61727df975015729602ed47df38ccbdec7b81ca75035d99823f35858524f04f9"), looks := true }, kinds := [], alts := [], laidByText := true, laidKinds := [.data, .data, .data, .data, .data, .data, .data, .data], laidTests := true, laidLooks := .later }
def InterpTellsCardSaid : Prop := Claim7.holds Tryz.pinned (.plain (OpenSpec.ofChange interpTellsSpec)) interpTellsCard

/-- THE TIED CARD OF 'marcheslaw21.QuantSends'. -/
def quantSendsCard : Claim7 := { stood := { row := quantSendsRow, standIns := [], harness := (true, "61727df975015729602ed47df38ccbdec7b81ca75035d99823f35858524f04f9"), looks := true }, kinds := [], alts := [], laidByText := true, laidKinds := [.data, .data, .data, .data, .data, .data, .data], laidTests := true, laidLooks := .later }
def QuantSendsCardSaid : Prop := Claim7.holds Tryz.pinned (.plain (OpenSpec.ofChange quantSendsSpec)) quantSendsCard

/-- THE SECOND FORM's CARD OF 'marcheslaw21.QuantTells'. -/
def quantTellsUptoCard : Claim7 := { stood := { row := quantTellsUptoRow, standIns := [], harness := (true, "61727df975015729602ed47df38ccbdec7b81ca75035d99823f35858524f04f9"), looks := true }, kinds := [], alts := [], laidByText := true, laidKinds := [.data, .data, .data, .data, .data, .data, .data], laidTests := true, laidLooks := .later }
def QuantTellsUptoCardSaid : Prop := Claim7.holds Tryz.pinned (.plain (OpenSpec.upto quantTellsSpec)) quantTellsUptoCard

/-- THE SECOND FORM's CARD OF 'marcheslaw21.QuantSends'. -/
def quantSendsUptoCard : Claim7 := { stood := { row := quantSendsUptoRow, standIns := [], harness := (true, "61727df975015729602ed47df38ccbdec7b81ca75035d99823f35858524f04f9"), looks := true }, kinds := [], alts := [], laidByText := true, laidKinds := [.data, .data, .data, .data, .data, .data, .data], laidTests := true, laidLooks := .later }
def QuantSendsUptoCardSaid : Prop := Claim7.holds Tryz.pinned (.plain (OpenSpec.upto quantSendsSpec)) quantSendsUptoCard
end Rows
end Go.Proofs.YtghfggfgndgkjaaGreatDoor
