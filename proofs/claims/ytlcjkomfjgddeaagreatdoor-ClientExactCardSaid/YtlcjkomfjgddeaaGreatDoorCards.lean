/-
  DERIVED. GIVEN WITH THE SEED: THE CARDS: each row of YtlcjkomfjgddeaaGreatDoorRows.lean that lists a variable, with what it lists TIED to the program's text (the seventh form; the later family's looks); each row that meets fmt, with fmt's text TOLD by the authors' own Lean function (tested against real Go, not proved from fmt's source: count such statements apart). THE CARD IS WHAT COUNTS. Prove the row's statement (the work); the ties are given (YtlcjkomfjgddeaaGreatDoorTie.lean); close each card by the builder's one call (the guide's Derived/Test/ToyasCard.lean, 'card_holds'). Laid BY PROGRAM, IN A SANDBOX (cutbox-door.mjs). By AI agents, Wed Nov 11 2026. No macro, syntax, notation, axiom, sorry.
-/
import Derived.Test.YtlcjkomfjgddeaaGreatDoorRows
import GoSem.ClaimSeven
namespace Go.Proofs.YtlcjkomfjgddeaaGreatDoor
namespace Rows

/-- THE TIED CARD OF 'marcheslaw27.ClientReconciles'. -/
def clientReconcilesCard : Claim7 := { stood := { row := clientReconcilesRow, standIns := [], harness := (true, "cf3bd5fb68cfc1d580cb77bcf17ca78a203d1d95d912e4be260d1f31551f6a17"), looks := false }, kinds := [], alts := [], laidByText := true, laidKinds := [.funcs, .data], laidTests := true, laidLooks := .later }
def ClientReconcilesCardSaid : Prop := Claim7.holds Tryz.pinned (.plain (OpenSpec.ofChange clientReconcilesSpec)) clientReconcilesCard

/-- THE TIED CARD OF 'marcheslaw27.ClientSteps'. -/
def clientStepsCard : Claim7 := { stood := { row := clientStepsRow, standIns := [], harness := (true, "cf3bd5fb68cfc1d580cb77bcf17ca78a203d1d95d912e4be260d1f31551f6a17"), looks := false }, kinds := [], alts := [], laidByText := true, laidKinds := [.funcs, .data], laidTests := true, laidLooks := .later }
def ClientStepsCardSaid : Prop := Claim7.holds Tryz.pinned (.plain (OpenSpec.ofChange clientStepsSpec)) clientStepsCard

/-- THE TIED CARD OF 'marcheslaw27.ClientPushes'. -/
def clientPushesCard : Claim7 := { stood := { row := clientPushesRow, standIns := [], harness := (true, "cf3bd5fb68cfc1d580cb77bcf17ca78a203d1d95d912e4be260d1f31551f6a17"), looks := false }, kinds := [], alts := [], laidByText := true, laidKinds := [.funcs, .data], laidTests := true, laidLooks := .later }
def ClientPushesCardSaid : Prop := Claim7.holds Tryz.pinned (.plain (OpenSpec.ofChange clientPushesSpec)) clientPushesCard

/-- THE TIED CARD OF 'marcheslaw27.ClientWrong'. -/
def clientWrongCard : Claim7 := { stood := { row := clientWrongRow, standIns := [], harness := (true, "cf3bd5fb68cfc1d580cb77bcf17ca78a203d1d95d912e4be260d1f31551f6a17"), looks := false }, kinds := [], alts := [], laidByText := true, laidKinds := [.funcs, .data], laidTests := true, laidLooks := .later }
def ClientWrongCardSaid : Prop := Claim7.holds Tryz.pinned (.plain (OpenSpec.ofChange clientWrongSpec)) clientWrongCard

/-- THE TIED CARD OF 'marcheslaw27.ClientOwn'. -/
def clientOwnCard : Claim7 := { stood := { row := clientOwnRow, standIns := [], harness := (true, "cf3bd5fb68cfc1d580cb77bcf17ca78a203d1d95d912e4be260d1f31551f6a17"), looks := false }, kinds := [], alts := [], laidByText := true, laidKinds := [.funcs, .data], laidTests := true, laidLooks := .later }
def ClientOwnCardSaid : Prop := Claim7.holds Tryz.pinned (.plain (OpenSpec.ofChange clientOwnSpec)) clientOwnCard

/-- THE TIED CARD OF 'marcheslaw27.ClientExact'. -/
def clientExactCard : Claim7 := { stood := { row := clientExactRow, standIns := [], harness := (true, "cf3bd5fb68cfc1d580cb77bcf17ca78a203d1d95d912e4be260d1f31551f6a17"), looks := false }, kinds := [], alts := [], laidByText := true, laidKinds := [.funcs, .data], laidTests := true, laidLooks := .later }
def ClientExactCardSaid : Prop := Claim7.holds Tryz.pinned (.plain (OpenSpec.ofChange clientExactSpec)) clientExactCard

/-- THE SECOND FORM's CARD OF 'marcheslaw27.ClientReconciles'. -/
def clientReconcilesUptoCard : Claim7 := { stood := { row := clientReconcilesUptoRow, standIns := [], harness := (true, "cf3bd5fb68cfc1d580cb77bcf17ca78a203d1d95d912e4be260d1f31551f6a17"), looks := false }, kinds := [], alts := [], laidByText := true, laidKinds := [.funcs, .data], laidTests := true, laidLooks := .later }
def ClientReconcilesUptoCardSaid : Prop := Claim7.holds Tryz.pinned (.plain (OpenSpec.upto clientReconcilesSpec)) clientReconcilesUptoCard

/-- THE SECOND FORM's CARD OF 'marcheslaw27.ClientSteps'. -/
def clientStepsUptoCard : Claim7 := { stood := { row := clientStepsUptoRow, standIns := [], harness := (true, "cf3bd5fb68cfc1d580cb77bcf17ca78a203d1d95d912e4be260d1f31551f6a17"), looks := false }, kinds := [], alts := [], laidByText := true, laidKinds := [.funcs, .data], laidTests := true, laidLooks := .later }
def ClientStepsUptoCardSaid : Prop := Claim7.holds Tryz.pinned (.plain (OpenSpec.upto clientStepsSpec)) clientStepsUptoCard

/-- THE SECOND FORM's CARD OF 'marcheslaw27.ClientPushes'. -/
def clientPushesUptoCard : Claim7 := { stood := { row := clientPushesUptoRow, standIns := [], harness := (true, "cf3bd5fb68cfc1d580cb77bcf17ca78a203d1d95d912e4be260d1f31551f6a17"), looks := false }, kinds := [], alts := [], laidByText := true, laidKinds := [.funcs, .data], laidTests := true, laidLooks := .later }
def ClientPushesUptoCardSaid : Prop := Claim7.holds Tryz.pinned (.plain (OpenSpec.upto clientPushesSpec)) clientPushesUptoCard

/-- THE SECOND FORM's CARD OF 'marcheslaw27.ClientWrong'. -/
def clientWrongUptoCard : Claim7 := { stood := { row := clientWrongUptoRow, standIns := [], harness := (true, "cf3bd5fb68cfc1d580cb77bcf17ca78a203d1d95d912e4be260d1f31551f6a17"), looks := false }, kinds := [], alts := [], laidByText := true, laidKinds := [.funcs, .data], laidTests := true, laidLooks := .later }
def ClientWrongUptoCardSaid : Prop := Claim7.holds Tryz.pinned (.plain (OpenSpec.upto clientWrongSpec)) clientWrongUptoCard

/-- THE SECOND FORM's CARD OF 'marcheslaw27.ClientOwn'. -/
def clientOwnUptoCard : Claim7 := { stood := { row := clientOwnUptoRow, standIns := [], harness := (true, "cf3bd5fb68cfc1d580cb77bcf17ca78a203d1d95d912e4be260d1f31551f6a17"), looks := false }, kinds := [], alts := [], laidByText := true, laidKinds := [.funcs, .data], laidTests := true, laidLooks := .later }
def ClientOwnUptoCardSaid : Prop := Claim7.holds Tryz.pinned (.plain (OpenSpec.upto clientOwnSpec)) clientOwnUptoCard

/-- THE SECOND FORM's CARD OF 'marcheslaw27.ClientExact'. -/
def clientExactUptoCard : Claim7 := { stood := { row := clientExactUptoRow, standIns := [], harness := (true, "cf3bd5fb68cfc1d580cb77bcf17ca78a203d1d95d912e4be260d1f31551f6a17"), looks := false }, kinds := [], alts := [], laidByText := true, laidKinds := [.funcs, .data], laidTests := true, laidLooks := .later }
def ClientExactUptoCardSaid : Prop := Claim7.holds Tryz.pinned (.plain (OpenSpec.upto clientExactSpec)) clientExactUptoCard
end Rows
end Go.Proofs.YtlcjkomfjgddeaaGreatDoor
