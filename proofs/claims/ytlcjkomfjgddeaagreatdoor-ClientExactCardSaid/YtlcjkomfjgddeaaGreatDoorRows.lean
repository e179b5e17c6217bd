/-
  NARROWER THAN 'FOR EVERY INPUT', by the rows' own cells (each row's printed sentence says how): ClientReconciles: laid · ClientSteps: laid · ClientPushes: laid · ClientWrong: laid · ClientOwn: laid · ClientExact: laid.
  DERIVED. THE GIVEN ROWS OF THIS SEAT. 6 by the template 'for every input the law returns true; each argument reads behind the call as it read before'; 0 by the template 'total and deterministic' (their statements: YtlcjkomfjgddeaaGreatDoorTotals.lean).
  GIVEN WITH THE SEED: the statements are not yours to turn. If you find one false, say at which input.
  Laid BY PROGRAM, IN A SANDBOX (cutbox-rows.mjs): the forced cells as the released guide's own fill.sh prints them over the translation 3b500714a1684b60… (all of the seat's roots in one cut). By AI agents, Wed Nov 11 2026. No macro, syntax, notation, axiom, sorry.
-/
import Derived.Test.YtlcjkomfjgddeaaGreatDoorChecked
import GoSem.Claim
import GoSem.ClaimJoined
import GoSem.ClaimMapViews
import Derived.JoinedTies
import Derived.KernelRfl
namespace Go.Proofs.YtlcjkomfjgddeaaGreatDoor
/- THE CELL 'sum', in the pinned program and in every row, IS THE sha256 OF THE DUMP (.gsa) THAT YtlcjkomfjgddeaaGreatDoorProg.lean LOADS. Nothing in Lean hashes anything: it is a label: what it is worth is what the hold of that sum in a sandbox is worth. -/
noncomputable def Tryz.pinned : Pinned := { name := "ytlcjkomfjgddeaagreatdoor", sum := "3b500714a1684b602617c1de1ade59c50a369aeddb0d57c70dd21325c3c72e75", checked := Tryz.checked }
namespace Rows
def none {H : Type} : Left H := { results := [], args := [] }

/- WHAT THE LISTED PACKAGE-LEVEL VARIABLES READ AS WHEN THE CALL BEGINS. Each datum BY PROGRAM (the guide's laid-datum.mjs) off the statement by which the dump's own 'gosem.cut.vars' lays the variable. In a bare row this is a premise. The card (YtlcjkomfjgddeaaGreatDoorCards.lean) ties it to the program's text. -/
def laid_marches_shape_rooms {H : Type} : DataW H := .iface "func table" (.agg [.agg [.iface "func" (.lit (.string [109, 97, 114, 99, 104, 101, 115, 47, 115, 104, 97, 112, 101, 46, 98, 111, 120, 101, 115])), .iface "func" (.lit (.string [109, 97, 114, 99, 104, 101, 115, 47, 115, 104, 97, 112, 101, 46, 98, 111, 120, 67, 105, 114, 99, 108, 101]))], .agg [.iface "func" (.lit (.string [109, 97, 114, 99, 104, 101, 115, 47, 115, 104, 97, 112, 101, 46, 99, 105, 114, 99, 108, 101, 66, 111, 120])), .iface "func" (.lit (.string [109, 97, 114, 99, 104, 101, 115, 47, 115, 104, 97, 112, 101, 46, 99, 105, 114, 99, 108, 101, 115]))]])
def laid_marches_store_ranges {H : Type} : DataW H := .agg [.agg [.agg [.lit (.int .i64 0), .lit (.int .i64 0)], .agg [.lit (.int .i64 0), .lit (.int .i64 0)], .agg [.lit (.int .i64 0), .lit (.int .i64 0)], .agg [.lit (.int .i64 0), .lit (.int .i64 0)]], .agg [.agg [.lit (.int .i64 (-1048576)), .lit (.int .i64 1048576)], .agg [.lit (.int .i64 (-1048576)), .lit (.int .i64 1048576)], .agg [.lit (.int .i64 0), .lit (.int .i64 0)], .agg [.lit (.int .i64 0), .lit (.int .i64 0)]], .agg [.agg [.lit (.int .i64 (-4096)), .lit (.int .i64 4096)], .agg [.lit (.int .i64 (-4096)), .lit (.int .i64 4096)], .agg [.lit (.int .i64 0), .lit (.int .i64 0)], .agg [.lit (.int .i64 0), .lit (.int .i64 0)]], .agg [.agg [.lit (.int .i64 1), .lit (.int .i64 16384)], .agg [.lit (.int .i64 1), .lit (.int .i64 16384)], .agg [.lit (.int .i64 0), .lit (.int .i64 1)], .agg [.lit (.int .i64 0), .lit (.int .i64 1)]], .agg [.agg [.lit (.int .i64 1), .lit (.int .i64 8)], .agg [.lit (.int .i64 0), .lit (.int .i64 0)], .agg [.lit (.int .i64 0), .lit (.int .i64 0)], .agg [.lit (.int .i64 0), .lit (.int .i64 0)]], .agg [.agg [.lit (.int .i64 0), .lit (.int .i64 510)], .agg [.lit (.int .i64 0), .lit (.int .i64 0)], .agg [.lit (.int .i64 0), .lit (.int .i64 0)], .agg [.lit (.int .i64 0), .lit (.int .i64 0)]], .agg [.agg [.lit (.int .i64 0), .lit (.int .i64 15)], .agg [.lit (.int .i64 0), .lit (.int .i64 0)], .agg [.lit (.int .i64 0), .lit (.int .i64 0)], .agg [.lit (.int .i64 0), .lit (.int .i64 0)]], .agg [.agg [.lit (.int .i64 (-2147483648)), .lit (.int .i64 2147483647)], .agg [.lit (.int .i64 (-2147483648)), .lit (.int .i64 2147483647)], .agg [.lit (.int .i64 (-2147483648)), .lit (.int .i64 2147483647)], .agg [.lit (.int .i64 (-2147483648)), .lit (.int .i64 2147483647)]], .agg [.agg [.lit (.int .i64 0), .lit (.int .i64 1048576)], .agg [.lit (.int .i64 0), .lit (.int .i64 1048576)], .agg [.lit (.int .i64 0), .lit (.int .i64 0)], .agg [.lit (.int .i64 0), .lit (.int .i64 0)]], .agg [.agg [.lit (.int .i64 0), .lit (.int .i64 2147483647)], .agg [.lit (.int .i64 0), .lit (.int .i64 2147483647)], .agg [.lit (.int .i64 0), .lit (.int .i64 2147483647)], .agg [.lit (.int .i64 0), .lit (.int .i64 2147483647)]], .agg [.agg [.lit (.int .i64 (-2147483648)), .lit (.int .i64 2147483647)], .agg [.lit (.int .i64 (-2147483648)), .lit (.int .i64 2147483647)], .agg [.lit (.int .i64 (-2147483648)), .lit (.int .i64 2147483647)], .agg [.lit (.int .i64 (-2147483648)), .lit (.int .i64 2147483647)]]]

/-- 'marcheslaw27.ClientReconciles': WHATEVER THE INPUT: true; the input reads as it did. -/
def clientReconcilesSpec : ChangeSpec := { name := "clientReconciles", fn := fun _ => fun
  | [d1, d2] => { results := [.lit (.bool true)], args := [d1, d2] }
  | _ => none }
def clientReconcilesRow : OpenClaim := { program := "ytlcjkomfjgddeaagreatdoor", sum := "3b500714a1684b602617c1de1ade59c50a369aeddb0d57c70dd21325c3c72e75", func := "marches/marcheslaw27.ClientReconciles", spec := "clientReconciles", unfollowed := true, recurses := true, named := ["marches/store.ranges", "marches/shape.rooms"], apart := false, laid := [("marches/shape.rooms", laid_marches_shape_rooms), ("marches/store.ranges", laid_marches_store_ranges)] }
def ClientReconcilesSaid : Prop := clientReconcilesRow.holds Tryz.pinned (OpenSpec.ofChange clientReconcilesSpec)

/-- ITS FALSE NEIGHBOUR: 'it returns false'. Refute it at one input. -/
def clientReconcilesWrong : ChangeSpec := { name := "clientReconciles", fn := fun _ => fun
  | [d1, d2] => { results := [.lit (.bool false)], args := [d1, d2] }
  | _ => none }
def ClientReconcilesWrongFalsely : Prop := clientReconcilesRow.holds Tryz.pinned (OpenSpec.ofChange clientReconcilesWrong)

/-- 'marcheslaw27.ClientSteps': WHATEVER THE INPUT: true; the input reads as it did. -/
def clientStepsSpec : ChangeSpec := { name := "clientSteps", fn := fun _ => fun
  | [d] => { results := [.lit (.bool true)], args := [d] }
  | _ => none }
def clientStepsRow : OpenClaim := { program := "ytlcjkomfjgddeaagreatdoor", sum := "3b500714a1684b602617c1de1ade59c50a369aeddb0d57c70dd21325c3c72e75", func := "marches/marcheslaw27.ClientSteps", spec := "clientSteps", unfollowed := true, recurses := true, named := ["marches/store.ranges", "marches/shape.rooms"], apart := false, laid := [("marches/shape.rooms", laid_marches_shape_rooms), ("marches/store.ranges", laid_marches_store_ranges)] }
def ClientStepsSaid : Prop := clientStepsRow.holds Tryz.pinned (OpenSpec.ofChange clientStepsSpec)

/-- ITS FALSE NEIGHBOUR: 'it returns false'. Refute it at one input. -/
def clientStepsWrong : ChangeSpec := { name := "clientSteps", fn := fun _ => fun
  | [d] => { results := [.lit (.bool false)], args := [d] }
  | _ => none }
def ClientStepsWrongFalsely : Prop := clientStepsRow.holds Tryz.pinned (OpenSpec.ofChange clientStepsWrong)

/-- 'marcheslaw27.ClientPushes': WHATEVER THE INPUT: true; the input reads as it did. -/
def clientPushesSpec : ChangeSpec := { name := "clientPushes", fn := fun _ => fun
  | [d1, d2] => { results := [.lit (.bool true)], args := [d1, d2] }
  | _ => none }
def clientPushesRow : OpenClaim := { program := "ytlcjkomfjgddeaagreatdoor", sum := "3b500714a1684b602617c1de1ade59c50a369aeddb0d57c70dd21325c3c72e75", func := "marches/marcheslaw27.ClientPushes", spec := "clientPushes", unfollowed := true, recurses := true, named := ["marches/store.ranges", "marches/shape.rooms"], apart := false, laid := [("marches/shape.rooms", laid_marches_shape_rooms), ("marches/store.ranges", laid_marches_store_ranges)] }
def ClientPushesSaid : Prop := clientPushesRow.holds Tryz.pinned (OpenSpec.ofChange clientPushesSpec)

/-- ITS FALSE NEIGHBOUR: 'it returns false'. Refute it at one input. -/
def clientPushesWrong : ChangeSpec := { name := "clientPushes", fn := fun _ => fun
  | [d1, d2] => { results := [.lit (.bool false)], args := [d1, d2] }
  | _ => none }
def ClientPushesWrongFalsely : Prop := clientPushesRow.holds Tryz.pinned (OpenSpec.ofChange clientPushesWrong)

/-- 'marcheslaw27.ClientWrong': WHATEVER THE INPUT: true; the input reads as it did. -/
def clientWrongSpec : ChangeSpec := { name := "clientWrong", fn := fun _ => fun
  | [d1, d2, d3] => { results := [.lit (.bool true)], args := [d1, d2, d3] }
  | _ => none }
def clientWrongRow : OpenClaim := { program := "ytlcjkomfjgddeaagreatdoor", sum := "3b500714a1684b602617c1de1ade59c50a369aeddb0d57c70dd21325c3c72e75", func := "marches/marcheslaw27.ClientWrong", spec := "clientWrong", unfollowed := true, recurses := true, named := ["marches/store.ranges", "marches/shape.rooms"], apart := false, laid := [("marches/shape.rooms", laid_marches_shape_rooms), ("marches/store.ranges", laid_marches_store_ranges)] }
def ClientWrongSaid : Prop := clientWrongRow.holds Tryz.pinned (OpenSpec.ofChange clientWrongSpec)

/-- ITS FALSE NEIGHBOUR: 'it returns false'. Refute it at one input. -/
def clientWrongWrong : ChangeSpec := { name := "clientWrong", fn := fun _ => fun
  | [d1, d2, d3] => { results := [.lit (.bool false)], args := [d1, d2, d3] }
  | _ => none }
def ClientWrongWrongFalsely : Prop := clientWrongRow.holds Tryz.pinned (OpenSpec.ofChange clientWrongWrong)

/-- 'marcheslaw27.ClientOwn': WHATEVER THE INPUT: true; the input reads as it did. -/
def clientOwnSpec : ChangeSpec := { name := "clientOwn", fn := fun _ => fun
  | [d1, d2] => { results := [.lit (.bool true)], args := [d1, d2] }
  | _ => none }
def clientOwnRow : OpenClaim := { program := "ytlcjkomfjgddeaagreatdoor", sum := "3b500714a1684b602617c1de1ade59c50a369aeddb0d57c70dd21325c3c72e75", func := "marches/marcheslaw27.ClientOwn", spec := "clientOwn", unfollowed := true, recurses := true, named := ["marches/store.ranges", "marches/shape.rooms"], apart := false, laid := [("marches/shape.rooms", laid_marches_shape_rooms), ("marches/store.ranges", laid_marches_store_ranges)] }
def ClientOwnSaid : Prop := clientOwnRow.holds Tryz.pinned (OpenSpec.ofChange clientOwnSpec)

/-- ITS FALSE NEIGHBOUR: 'it returns false'. Refute it at one input. -/
def clientOwnWrong : ChangeSpec := { name := "clientOwn", fn := fun _ => fun
  | [d1, d2] => { results := [.lit (.bool false)], args := [d1, d2] }
  | _ => none }
def ClientOwnWrongFalsely : Prop := clientOwnRow.holds Tryz.pinned (OpenSpec.ofChange clientOwnWrong)

/-- 'marcheslaw27.ClientExact': WHATEVER THE INPUT: true; the input reads as it did. -/
def clientExactSpec : ChangeSpec := { name := "clientExact", fn := fun _ => fun
  | [d1, d2] => { results := [.lit (.bool true)], args := [d1, d2] }
  | _ => none }
def clientExactRow : OpenClaim := { program := "ytlcjkomfjgddeaagreatdoor", sum := "3b500714a1684b602617c1de1ade59c50a369aeddb0d57c70dd21325c3c72e75", func := "marches/marcheslaw27.ClientExact", spec := "clientExact", inPlace := ["slices.overlaps[marches/api.Comp]"], unfollowed := true, recurses := true, named := ["marches/store.ranges", "marches/shape.rooms"], apart := false, laid := [("marches/shape.rooms", laid_marches_shape_rooms), ("marches/store.ranges", laid_marches_store_ranges)] }
def ClientExactSaid : Prop := clientExactRow.holds Tryz.pinned (OpenSpec.ofChange clientExactSpec)

/-- ITS FALSE NEIGHBOUR: 'it returns false'. Refute it at one input. -/
def clientExactWrong : ChangeSpec := { name := "clientExact", fn := fun _ => fun
  | [d1, d2] => { results := [.lit (.bool false)], args := [d1, d2] }
  | _ => none }
def ClientExactWrongFalsely : Prop := clientExactRow.holds Tryz.pinned (OpenSpec.ofChange clientExactWrong)

/- THE SECOND FORM. 'bulk': how many values and letters a reading holds, each counted each time it is reached (what is shared counts as often as it is met; a slice's spare places count too). A statement '..UptoSaid' is the law's where the arguments, and the package variables that the reading takes, are together of bulk at most 1048576: NARROWER than '..Said'. Prove '..Said' where nothing that the law and all that it calls make is longer than what came in: it says more and counts as full. Else prove '..UptoSaid'. A law counts once. -/
mutual
def uptoBulk {H : Type} : DataW H → Nat
  | .lit (.string bytes) => bytes.length + 1
  | .lit _ => 1
  | .nil => 1
  | .ptr d => uptoBulk d + 1
  | .slice elems spare => uptoBulkAll elems + uptoBulkAll spare + 1
  | .agg parts => uptoBulkAll parts + 1
  | .iface _ d => uptoBulk d + 1
  | .map entries => uptoBulkEntries entries + 1
  | .held _ => 1
def uptoBulkAll {H : Type} : List (DataW H) → Nat
  | [] => 0
  | d :: r => uptoBulk d + uptoBulkAll r
def uptoBulkEntries {H : Type} : List (Lit × DataW H) → Nat
  | [] => 0
  | x :: r => uptoBulkEntry x + uptoBulkEntries r
def uptoBulkEntry {H : Type} : Lit × DataW H → Nat
  | (.string bytes, d) => bytes.length + uptoBulk d + 1
  | (_, d) => uptoBulk d + 1
 end
def uptoSmall : (H : Type) → List (DataW H) → Bool := fun _ ds => decide (uptoBulkAll ds ≤ 1048576)
def OpenSpec.upto (s : _root_.Go.ChangeSpec) : _root_.Go.OpenSpec := { _root_.Go.OpenSpec.ofChange s with cond := some uptoSmall }

/-- 'marcheslaw27.ClientReconciles', WHERE WHAT IT READS IS OF BULK AT MOST 1048576: true; the input reads as it did. -/
def clientReconcilesUptoRow : OpenClaim := { program := "ytlcjkomfjgddeaagreatdoor", sum := "3b500714a1684b602617c1de1ade59c50a369aeddb0d57c70dd21325c3c72e75", func := "marches/marcheslaw27.ClientReconciles", spec := "clientReconciles", unfollowed := true, recurses := true, named := ["marches/store.ranges", "marches/shape.rooms"], apart := false, laid := [("marches/shape.rooms", laid_marches_shape_rooms), ("marches/store.ranges", laid_marches_store_ranges)], narrowed := true }
def ClientReconcilesUptoSaid : Prop := clientReconcilesUptoRow.holds Tryz.pinned (OpenSpec.upto clientReconcilesSpec)

/-- 'marcheslaw27.ClientSteps', WHERE WHAT IT READS IS OF BULK AT MOST 1048576: true; the input reads as it did. -/
def clientStepsUptoRow : OpenClaim := { program := "ytlcjkomfjgddeaagreatdoor", sum := "3b500714a1684b602617c1de1ade59c50a369aeddb0d57c70dd21325c3c72e75", func := "marches/marcheslaw27.ClientSteps", spec := "clientSteps", unfollowed := true, recurses := true, named := ["marches/store.ranges", "marches/shape.rooms"], apart := false, laid := [("marches/shape.rooms", laid_marches_shape_rooms), ("marches/store.ranges", laid_marches_store_ranges)], narrowed := true }
def ClientStepsUptoSaid : Prop := clientStepsUptoRow.holds Tryz.pinned (OpenSpec.upto clientStepsSpec)

/-- 'marcheslaw27.ClientPushes', WHERE WHAT IT READS IS OF BULK AT MOST 1048576: true; the input reads as it did. -/
def clientPushesUptoRow : OpenClaim := { program := "ytlcjkomfjgddeaagreatdoor", sum := "3b500714a1684b602617c1de1ade59c50a369aeddb0d57c70dd21325c3c72e75", func := "marches/marcheslaw27.ClientPushes", spec := "clientPushes", unfollowed := true, recurses := true, named := ["marches/store.ranges", "marches/shape.rooms"], apart := false, laid := [("marches/shape.rooms", laid_marches_shape_rooms), ("marches/store.ranges", laid_marches_store_ranges)], narrowed := true }
def ClientPushesUptoSaid : Prop := clientPushesUptoRow.holds Tryz.pinned (OpenSpec.upto clientPushesSpec)

/-- 'marcheslaw27.ClientWrong', WHERE WHAT IT READS IS OF BULK AT MOST 1048576: true; the input reads as it did. -/
def clientWrongUptoRow : OpenClaim := { program := "ytlcjkomfjgddeaagreatdoor", sum := "3b500714a1684b602617c1de1ade59c50a369aeddb0d57c70dd21325c3c72e75", func := "marches/marcheslaw27.ClientWrong", spec := "clientWrong", unfollowed := true, recurses := true, named := ["marches/store.ranges", "marches/shape.rooms"], apart := false, laid := [("marches/shape.rooms", laid_marches_shape_rooms), ("marches/store.ranges", laid_marches_store_ranges)], narrowed := true }
def ClientWrongUptoSaid : Prop := clientWrongUptoRow.holds Tryz.pinned (OpenSpec.upto clientWrongSpec)

/-- 'marcheslaw27.ClientOwn', WHERE WHAT IT READS IS OF BULK AT MOST 1048576: true; the input reads as it did. -/
def clientOwnUptoRow : OpenClaim := { program := "ytlcjkomfjgddeaagreatdoor", sum := "3b500714a1684b602617c1de1ade59c50a369aeddb0d57c70dd21325c3c72e75", func := "marches/marcheslaw27.ClientOwn", spec := "clientOwn", unfollowed := true, recurses := true, named := ["marches/store.ranges", "marches/shape.rooms"], apart := false, laid := [("marches/shape.rooms", laid_marches_shape_rooms), ("marches/store.ranges", laid_marches_store_ranges)], narrowed := true }
def ClientOwnUptoSaid : Prop := clientOwnUptoRow.holds Tryz.pinned (OpenSpec.upto clientOwnSpec)

/-- 'marcheslaw27.ClientExact', WHERE WHAT IT READS IS OF BULK AT MOST 1048576: true; the input reads as it did. -/
def clientExactUptoRow : OpenClaim := { program := "ytlcjkomfjgddeaagreatdoor", sum := "3b500714a1684b602617c1de1ade59c50a369aeddb0d57c70dd21325c3c72e75", func := "marches/marcheslaw27.ClientExact", spec := "clientExact", inPlace := ["slices.overlaps[marches/api.Comp]"], unfollowed := true, recurses := true, named := ["marches/store.ranges", "marches/shape.rooms"], apart := false, laid := [("marches/shape.rooms", laid_marches_shape_rooms), ("marches/store.ranges", laid_marches_store_ranges)], narrowed := true }
def ClientExactUptoSaid : Prop := clientExactUptoRow.holds Tryz.pinned (OpenSpec.upto clientExactSpec)

end Rows
end Go.Proofs.YtlcjkomfjgddeaaGreatDoor
