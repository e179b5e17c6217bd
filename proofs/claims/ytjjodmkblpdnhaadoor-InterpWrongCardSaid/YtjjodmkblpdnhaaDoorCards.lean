/-
  DERIVED. GIVEN WITH THE SEED: THE CARDS: each row of YtjjodmkblpdnhaaDoorRows.lean that lists a variable, with what it lists TIED to the program's text (the seventh form; the later family's looks); each row that meets fmt, with fmt's text TOLD by the authors' own Lean function (tested against real Go, not proved from fmt's source: count such statements apart). THE CARD IS WHAT COUNTS. Prove the row's statement (the work); the ties are given (YtjjodmkblpdnhaaDoorTie.lean); close each card by the builder's one call (the guide's Derived/Test/ToyasCard.lean, 'card_holds'). Laid BY PROGRAM, IN A SANDBOX (cutbox-door.mjs). By AI agents, Wed Nov 11 2026. No macro, syntax, notation, axiom, sorry.
-/
import Derived.Test.YtjjodmkblpdnhaaDoorRows
import GoSem.ClaimSeven
namespace Go.Proofs.YtjjodmkblpdnhaaDoor
namespace Rows

/-- THE TIED CARD OF 'marcheslaw28.InterpKeeps'. -/
def interpKeepsCard : Claim7 := { stood := { row := interpKeepsRow, standIns := [], harness := (true, "c4ea2b264f8c10b2f54221e5308f0d33dbcb3682bc0eb0295667e0a30b40a42e"), looks := false }, kinds := [], alts := [], laidByText := true, laidKinds := [.data], laidTests := true, laidLooks := .later }
def InterpKeepsCardSaid : Prop := Claim7.holds Tryd.pinned (.plain (OpenSpec.ofChange interpKeepsSpec)) interpKeepsCard

/-- THE TIED CARD OF 'marcheslaw28.InterpNear'. -/
def interpNearCard : Claim7 := { stood := { row := interpNearRow, standIns := [], harness := (true, "c4ea2b264f8c10b2f54221e5308f0d33dbcb3682bc0eb0295667e0a30b40a42e"), looks := false }, kinds := [], alts := [], laidByText := true, laidKinds := [.data], laidTests := true, laidLooks := .later }
def InterpNearCardSaid : Prop := Claim7.holds Tryd.pinned (.plain (OpenSpec.ofChange interpNearSpec)) interpNearCard

/-- THE TIED CARD OF 'marcheslaw28.InterpWrong'. -/
def interpWrongCard : Claim7 := { stood := { row := interpWrongRow, standIns := [], harness := (true, "c4ea2b264f8c10b2f54221e5308f0d33dbcb3682bc0eb0295667e0a30b40a42e"), looks := false }, kinds := [], alts := [], laidByText := true, laidKinds := [.data], laidTests := true, laidLooks := .later }
def InterpWrongCardSaid : Prop := Claim7.holds Tryd.pinned (.plain (OpenSpec.ofChange interpWrongSpec)) interpWrongCard

/-- THE TIED CARD OF 'marcheslaw28.InterpEven'. -/
def interpEvenCard : Claim7 := { stood := { row := interpEvenRow, standIns := [], harness := (true, "c4ea2b264f8c10b2f54221e5308f0d33dbcb3682bc0eb0295667e0a30b40a42e"), looks := false }, kinds := [], alts := [], laidByText := true, laidKinds := [.data], laidTests := true, laidLooks := .later }
def InterpEvenCardSaid : Prop := Claim7.holds Tryd.pinned (.plain (OpenSpec.ofChange interpEvenSpec)) interpEvenCard

/-- THE TIED CARD OF 'marcheslaw28.InterpMoves'. -/
def interpMovesCard : Claim7 := { stood := { row := interpMovesRow, standIns := [], harness := (true, "c4ea2b264f8c10b2f54221e5308f0d33dbcb3682bc0eb0295667e0a30b40a42e"), looks := false }, kinds := [], alts := [], laidByText := true, laidKinds := [.data], laidTests := true, laidLooks := .later }
def InterpMovesCardSaid : Prop := Claim7.holds Tryd.pinned (.plain (OpenSpec.ofChange interpMovesSpec)) interpMovesCard

/-- THE SECOND FORM's CARD OF 'marcheslaw28.InterpKeeps'. -/
def interpKeepsUptoCard : Claim7 := { stood := { row := interpKeepsUptoRow, standIns := [], harness := (true, "c4ea2b264f8c10b2f54221e5308f0d33dbcb3682bc0eb0295667e0a30b40a42e"), looks := false }, kinds := [], alts := [], laidByText := true, laidKinds := [.data], laidTests := true, laidLooks := .later }
def InterpKeepsUptoCardSaid : Prop := Claim7.holds Tryd.pinned (.plain (OpenSpec.upto interpKeepsSpec)) interpKeepsUptoCard

/-- THE SECOND FORM's CARD OF 'marcheslaw28.InterpNear'. -/
def interpNearUptoCard : Claim7 := { stood := { row := interpNearUptoRow, standIns := [], harness := (true, "c4ea2b264f8c10b2f54221e5308f0d33dbcb3682bc0eb0295667e0a30b40a42e"), looks := false }, kinds := [], alts := [], laidByText := true, laidKinds := [.data], laidTests := true, laidLooks := .later }
def InterpNearUptoCardSaid : Prop := Claim7.holds Tryd.pinned (.plain (OpenSpec.upto interpNearSpec)) interpNearUptoCard

/-- THE SECOND FORM's CARD OF 'marcheslaw28.InterpWrong'. -/
def interpWrongUptoCard : Claim7 := { stood := { row := interpWrongUptoRow, standIns := [], harness := (true, "c4ea2b264f8c10b2f54221e5308f0d33dbcb3682bc0eb0295667e0a30b40a42e"), looks := false }, kinds := [], alts := [], laidByText := true, laidKinds := [.data], laidTests := true, laidLooks := .later }
def InterpWrongUptoCardSaid : Prop := Claim7.holds Tryd.pinned (.plain (OpenSpec.upto interpWrongSpec)) interpWrongUptoCard

/-- THE SECOND FORM's CARD OF 'marcheslaw28.InterpEven'. -/
def interpEvenUptoCard : Claim7 := { stood := { row := interpEvenUptoRow, standIns := [], harness := (true, "c4ea2b264f8c10b2f54221e5308f0d33dbcb3682bc0eb0295667e0a30b40a42e"), looks := false }, kinds := [], alts := [], laidByText := true, laidKinds := [.data], laidTests := true, laidLooks := .later }
def InterpEvenUptoCardSaid : Prop := Claim7.holds Tryd.pinned (.plain (OpenSpec.upto interpEvenSpec)) interpEvenUptoCard

/-- THE SECOND FORM's CARD OF 'marcheslaw28.InterpMoves'. -/
def interpMovesUptoCard : Claim7 := { stood := { row := interpMovesUptoRow, standIns := [], harness := (true, "c4ea2b264f8c10b2f54221e5308f0d33dbcb3682bc0eb0295667e0a30b40a42e"), looks := false }, kinds := [], alts := [], laidByText := true, laidKinds := [.data], laidTests := true, laidLooks := .later }
def InterpMovesUptoCardSaid : Prop := Claim7.holds Tryd.pinned (.plain (OpenSpec.upto interpMovesSpec)) interpMovesUptoCard
end Rows
end Go.Proofs.YtjjodmkblpdnhaaDoor
