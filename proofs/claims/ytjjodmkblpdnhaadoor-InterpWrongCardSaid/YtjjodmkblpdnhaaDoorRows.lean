/-
  NARROWER THAN 'FOR EVERY INPUT', by the rows' own cells (each row's printed sentence says how): InterpKeeps: laid · InterpNear: laid · InterpWrong: laid · InterpEven: laid · InterpMoves: laid.
  DERIVED. THE GIVEN ROWS OF THIS SEAT. 5 by the template 'for every input the law returns true; each argument reads behind the call as it read before'; 0 by the template 'total and deterministic' (their statements: YtjjodmkblpdnhaaDoorTotals.lean).
  GIVEN WITH THE SEED: the statements are not yours to turn. If you find one false, say at which input.
  Laid BY PROGRAM, IN A SANDBOX (cutbox-rows.mjs): the forced cells as the released guide's own fill.sh prints them over the translation 11523c83d4b142b2… (all of the seat's roots in one cut). By AI agents, Wed Nov 11 2026. No macro, syntax, notation, axiom, sorry.
-/
import Derived.Test.YtjjodmkblpdnhaaDoorChecked
import GoSem.Claim
import GoSem.ClaimJoined
import GoSem.ClaimMapViews
import Derived.JoinedTies
import Derived.KernelRfl
namespace Go.Proofs.YtjjodmkblpdnhaaDoor
/- THE CELL 'sum', in the pinned program and in every row, IS THE sha256 OF THE DUMP (.gsa) THAT YtjjodmkblpdnhaaDoorProg.lean LOADS. Nothing in Lean hashes anything: it is a label: what it is worth is what the hold of that sum in a sandbox is worth. -/
noncomputable def Tryd.pinned : Pinned := { name := "ytjjodmkblpdnhaadoor", sum := "11523c83d4b142b21ffd11256a74367413fe48ef7ce4c617b4712a8ca0e25cf8", checked := Tryd.checked }
namespace Rows
def none {H : Type} : Left H := { results := [], args := [] }

/- WHAT THE LISTED PACKAGE-LEVEL VARIABLES READ AS WHEN THE CALL BEGINS. Each datum BY PROGRAM (the guide's laid-datum.mjs) off the statement by which the dump's own 'gosem.cut.vars' lays the variable. In a bare row this is a premise. The card (YtjjodmkblpdnhaaDoorCards.lean) ties it to the program's text. -/
def laid_marches_store_ranges {H : Type} : DataW H := .agg [.agg [.agg [.lit (.int .i64 0), .lit (.int .i64 0)], .agg [.lit (.int .i64 0), .lit (.int .i64 0)], .agg [.lit (.int .i64 0), .lit (.int .i64 0)], .agg [.lit (.int .i64 0), .lit (.int .i64 0)]], .agg [.agg [.lit (.int .i64 (-1048576)), .lit (.int .i64 1048576)], .agg [.lit (.int .i64 (-1048576)), .lit (.int .i64 1048576)], .agg [.lit (.int .i64 0), .lit (.int .i64 0)], .agg [.lit (.int .i64 0), .lit (.int .i64 0)]], .agg [.agg [.lit (.int .i64 (-4096)), .lit (.int .i64 4096)], .agg [.lit (.int .i64 (-4096)), .lit (.int .i64 4096)], .agg [.lit (.int .i64 0), .lit (.int .i64 0)], .agg [.lit (.int .i64 0), .lit (.int .i64 0)]], .agg [.agg [.lit (.int .i64 1), .lit (.int .i64 16384)], .agg [.lit (.int .i64 1), .lit (.int .i64 16384)], .agg [.lit (.int .i64 0), .lit (.int .i64 1)], .agg [.lit (.int .i64 0), .lit (.int .i64 1)]], .agg [.agg [.lit (.int .i64 1), .lit (.int .i64 8)], .agg [.lit (.int .i64 0), .lit (.int .i64 0)], .agg [.lit (.int .i64 0), .lit (.int .i64 0)], .agg [.lit (.int .i64 0), .lit (.int .i64 0)]], .agg [.agg [.lit (.int .i64 0), .lit (.int .i64 510)], .agg [.lit (.int .i64 0), .lit (.int .i64 0)], .agg [.lit (.int .i64 0), .lit (.int .i64 0)], .agg [.lit (.int .i64 0), .lit (.int .i64 0)]], .agg [.agg [.lit (.int .i64 0), .lit (.int .i64 15)], .agg [.lit (.int .i64 0), .lit (.int .i64 0)], .agg [.lit (.int .i64 0), .lit (.int .i64 0)], .agg [.lit (.int .i64 0), .lit (.int .i64 0)]], .agg [.agg [.lit (.int .i64 (-2147483648)), .lit (.int .i64 2147483647)], .agg [.lit (.int .i64 (-2147483648)), .lit (.int .i64 2147483647)], .agg [.lit (.int .i64 (-2147483648)), .lit (.int .i64 2147483647)], .agg [.lit (.int .i64 (-2147483648)), .lit (.int .i64 2147483647)]], .agg [.agg [.lit (.int .i64 0), .lit (.int .i64 1048576)], .agg [.lit (.int .i64 0), .lit (.int .i64 1048576)], .agg [.lit (.int .i64 0), .lit (.int .i64 0)], .agg [.lit (.int .i64 0), .lit (.int .i64 0)]], .agg [.agg [.lit (.int .i64 0), .lit (.int .i64 2147483647)], .agg [.lit (.int .i64 0), .lit (.int .i64 2147483647)], .agg [.lit (.int .i64 0), .lit (.int .i64 2147483647)], .agg [.lit (.int .i64 0), .lit (.int .i64 2147483647)]], .agg [.agg [.lit (.int .i64 (-2147483648)), .lit (.int .i64 2147483647)], .agg [.lit (.int .i64 (-2147483648)), .lit (.int .i64 2147483647)], .agg [.lit (.int .i64 (-2147483648)), .lit (.int .i64 2147483647)], .agg [.lit (.int .i64 (-2147483648)), .lit (.int .i64 2147483647)]]]

/-- 'marcheslaw28.InterpKeeps': WHATEVER THE INPUT: true; the input reads as it did. -/
def interpKeepsSpec : ChangeSpec := { name := "interpKeeps", fn := fun _ => fun
  | [d1, d2, d3, d4] => { results := [.lit (.bool true)], args := [d1, d2, d3, d4] }
  | _ => none }
def interpKeepsRow : OpenClaim := { program := "ytjjodmkblpdnhaadoor", sum := "11523c83d4b142b21ffd11256a74367413fe48ef7ce4c617b4712a8ca0e25cf8", func := "marches/marcheslaw28.InterpKeeps", spec := "interpKeeps", unfollowed := true, recurses := true, named := ["marches/store.ranges"], apart := false, laid := [("marches/store.ranges", laid_marches_store_ranges)] }
def InterpKeepsSaid : Prop := interpKeepsRow.holds Tryd.pinned (OpenSpec.ofChange interpKeepsSpec)

/-- ITS FALSE NEIGHBOUR: 'it returns false'. Refute it at one input. -/
def interpKeepsWrong : ChangeSpec := { name := "interpKeeps", fn := fun _ => fun
  | [d1, d2, d3, d4] => { results := [.lit (.bool false)], args := [d1, d2, d3, d4] }
  | _ => none }
def InterpKeepsWrongFalsely : Prop := interpKeepsRow.holds Tryd.pinned (OpenSpec.ofChange interpKeepsWrong)

/-- 'marcheslaw28.InterpNear': WHATEVER THE INPUT: true; the input reads as it did. -/
def interpNearSpec : ChangeSpec := { name := "interpNear", fn := fun _ => fun
  | [d1, d2, d3] => { results := [.lit (.bool true)], args := [d1, d2, d3] }
  | _ => none }
def interpNearRow : OpenClaim := { program := "ytjjodmkblpdnhaadoor", sum := "11523c83d4b142b21ffd11256a74367413fe48ef7ce4c617b4712a8ca0e25cf8", func := "marches/marcheslaw28.InterpNear", spec := "interpNear", unfollowed := true, recurses := true, named := ["marches/store.ranges"], apart := false, laid := [("marches/store.ranges", laid_marches_store_ranges)] }
def InterpNearSaid : Prop := interpNearRow.holds Tryd.pinned (OpenSpec.ofChange interpNearSpec)

/-- ITS FALSE NEIGHBOUR: 'it returns false'. Refute it at one input. -/
def interpNearWrong : ChangeSpec := { name := "interpNear", fn := fun _ => fun
  | [d1, d2, d3] => { results := [.lit (.bool false)], args := [d1, d2, d3] }
  | _ => none }
def InterpNearWrongFalsely : Prop := interpNearRow.holds Tryd.pinned (OpenSpec.ofChange interpNearWrong)

/-- 'marcheslaw28.InterpWrong': WHATEVER THE INPUT: true; the input reads as it did. -/
def interpWrongSpec : ChangeSpec := { name := "interpWrong", fn := fun _ => fun
  | [d1, d2, d3] => { results := [.lit (.bool true)], args := [d1, d2, d3] }
  | _ => none }
def interpWrongRow : OpenClaim := { program := "ytjjodmkblpdnhaadoor", sum := "11523c83d4b142b21ffd11256a74367413fe48ef7ce4c617b4712a8ca0e25cf8", func := "marches/marcheslaw28.InterpWrong", spec := "interpWrong", unfollowed := true, recurses := true, named := ["marches/store.ranges"], apart := false, laid := [("marches/store.ranges", laid_marches_store_ranges)] }
def InterpWrongSaid : Prop := interpWrongRow.holds Tryd.pinned (OpenSpec.ofChange interpWrongSpec)

/-- ITS FALSE NEIGHBOUR: 'it returns false'. Refute it at one input. -/
def interpWrongWrong : ChangeSpec := { name := "interpWrong", fn := fun _ => fun
  | [d1, d2, d3] => { results := [.lit (.bool false)], args := [d1, d2, d3] }
  | _ => none }
def InterpWrongWrongFalsely : Prop := interpWrongRow.holds Tryd.pinned (OpenSpec.ofChange interpWrongWrong)

/-- 'marcheslaw28.InterpEven': WHATEVER THE INPUT: true; the input reads as it did. -/
def interpEvenSpec : ChangeSpec := { name := "interpEven", fn := fun _ => fun
  | [d1, d2, d3, d4] => { results := [.lit (.bool true)], args := [d1, d2, d3, d4] }
  | _ => none }
def interpEvenRow : OpenClaim := { program := "ytjjodmkblpdnhaadoor", sum := "11523c83d4b142b21ffd11256a74367413fe48ef7ce4c617b4712a8ca0e25cf8", func := "marches/marcheslaw28.InterpEven", spec := "interpEven", unfollowed := true, recurses := true, named := ["marches/store.ranges"], apart := false, laid := [("marches/store.ranges", laid_marches_store_ranges)] }
def InterpEvenSaid : Prop := interpEvenRow.holds Tryd.pinned (OpenSpec.ofChange interpEvenSpec)

/-- ITS FALSE NEIGHBOUR: 'it returns false'. Refute it at one input. -/
def interpEvenWrong : ChangeSpec := { name := "interpEven", fn := fun _ => fun
  | [d1, d2, d3, d4] => { results := [.lit (.bool false)], args := [d1, d2, d3, d4] }
  | _ => none }
def InterpEvenWrongFalsely : Prop := interpEvenRow.holds Tryd.pinned (OpenSpec.ofChange interpEvenWrong)

/-- 'marcheslaw28.InterpMoves': WHATEVER THE INPUT: true; the input reads as it did. -/
def interpMovesSpec : ChangeSpec := { name := "interpMoves", fn := fun _ => fun
  | [d1, d2, d3, d4] => { results := [.lit (.bool true)], args := [d1, d2, d3, d4] }
  | _ => none }
def interpMovesRow : OpenClaim := { program := "ytjjodmkblpdnhaadoor", sum := "11523c83d4b142b21ffd11256a74367413fe48ef7ce4c617b4712a8ca0e25cf8", func := "marches/marcheslaw28.InterpMoves", spec := "interpMoves", unfollowed := true, recurses := true, named := ["marches/store.ranges"], apart := false, laid := [("marches/store.ranges", laid_marches_store_ranges)] }
def InterpMovesSaid : Prop := interpMovesRow.holds Tryd.pinned (OpenSpec.ofChange interpMovesSpec)

/-- ITS FALSE NEIGHBOUR: 'it returns false'. Refute it at one input. -/
def interpMovesWrong : ChangeSpec := { name := "interpMoves", fn := fun _ => fun
  | [d1, d2, d3, d4] => { results := [.lit (.bool false)], args := [d1, d2, d3, d4] }
  | _ => none }
def InterpMovesWrongFalsely : Prop := interpMovesRow.holds Tryd.pinned (OpenSpec.ofChange interpMovesWrong)

/- THE SECOND FORM. 'bulk': how many values and letters a reading holds, each counted each time it is reached (what is shared counts as often as it is met; a slice's spare places count too). A statement '..UptoSaid' is the law's where the arguments, and the package variables that the reading takes, are together of bulk at most 1048576: NARROWER than '..Said'. Prove '..Said' where nothing that the law and all that it calls make is longer than what came in: it says more and counts as full. Else prove '..UptoSaid'. A law counts once. -/
mutual
def uptoBulk {H : Type} : DataW H → Nat
  | .lit (.string bytes) => bytes.length + 1
  | .lit _ => 1
  | .nil => 1
  | .ptr d => uptoBulk d + 1
  | .slice elems spare => uptoBulkAll elems + uptoBulkAll spare + 1
  | .agg parts => uptoBulkAll parts + 1
  | .iface _ d => uptoBulk d + 1
  | .map entries => uptoBulkEntries entries + 1
  | .held _ => 1
def uptoBulkAll {H : Type} : List (DataW H) → Nat
  | [] => 0
  | d :: r => uptoBulk d + uptoBulkAll r
def uptoBulkEntries {H : Type} : List (Lit × DataW H) → Nat
  | [] => 0
  | x :: r => uptoBulkEntry x + uptoBulkEntries r
def uptoBulkEntry {H : Type} : Lit × DataW H → Nat
  | (.string bytes, d) => bytes.length + uptoBulk d + 1
  | (_, d) => uptoBulk d + 1
 end
def uptoSmall : (H : Type) → List (DataW H) → Bool := fun _ ds => decide (uptoBulkAll ds ≤ 1048576)
def OpenSpec.upto (s : _root_.Go.ChangeSpec) : _root_.Go.OpenSpec := { _root_.Go.OpenSpec.ofChange s with cond := some uptoSmall }

/-- 'marcheslaw28.InterpKeeps', WHERE WHAT IT READS IS OF BULK AT MOST 1048576: true; the input reads as it did. -/
def interpKeepsUptoRow : OpenClaim := { program := "ytjjodmkblpdnhaadoor", sum := "11523c83d4b142b21ffd11256a74367413fe48ef7ce4c617b4712a8ca0e25cf8", func := "marches/marcheslaw28.InterpKeeps", spec := "interpKeeps", unfollowed := true, recurses := true, named := ["marches/store.ranges"], apart := false, laid := [("marches/store.ranges", laid_marches_store_ranges)], narrowed := true }
def InterpKeepsUptoSaid : Prop := interpKeepsUptoRow.holds Tryd.pinned (OpenSpec.upto interpKeepsSpec)

/-- 'marcheslaw28.InterpNear', WHERE WHAT IT READS IS OF BULK AT MOST 1048576: true; the input reads as it did. -/
def interpNearUptoRow : OpenClaim := { program := "ytjjodmkblpdnhaadoor", sum := "11523c83d4b142b21ffd11256a74367413fe48ef7ce4c617b4712a8ca0e25cf8", func := "marches/marcheslaw28.InterpNear", spec := "interpNear", unfollowed := true, recurses := true, named := ["marches/store.ranges"], apart := false, laid := [("marches/store.ranges", laid_marches_store_ranges)], narrowed := true }
def InterpNearUptoSaid : Prop := interpNearUptoRow.holds Tryd.pinned (OpenSpec.upto interpNearSpec)

/-- 'marcheslaw28.InterpWrong', WHERE WHAT IT READS IS OF BULK AT MOST 1048576: true; the input reads as it did. -/
def interpWrongUptoRow : OpenClaim := { program := "ytjjodmkblpdnhaadoor", sum := "11523c83d4b142b21ffd11256a74367413fe48ef7ce4c617b4712a8ca0e25cf8", func := "marches/marcheslaw28.InterpWrong", spec := "interpWrong", unfollowed := true, recurses := true, named := ["marches/store.ranges"], apart := false, laid := [("marches/store.ranges", laid_marches_store_ranges)], narrowed := true }
def InterpWrongUptoSaid : Prop := interpWrongUptoRow.holds Tryd.pinned (OpenSpec.upto interpWrongSpec)

/-- 'marcheslaw28.InterpEven', WHERE WHAT IT READS IS OF BULK AT MOST 1048576: true; the input reads as it did. -/
def interpEvenUptoRow : OpenClaim := { program := "ytjjodmkblpdnhaadoor", sum := "11523c83d4b142b21ffd11256a74367413fe48ef7ce4c617b4712a8ca0e25cf8", func := "marches/marcheslaw28.InterpEven", spec := "interpEven", unfollowed := true, recurses := true, named := ["marches/store.ranges"], apart := false, laid := [("marches/store.ranges", laid_marches_store_ranges)], narrowed := true }
def InterpEvenUptoSaid : Prop := interpEvenUptoRow.holds Tryd.pinned (OpenSpec.upto interpEvenSpec)

/-- 'marcheslaw28.InterpMoves', WHERE WHAT IT READS IS OF BULK AT MOST 1048576: true; the input reads as it did. -/
def interpMovesUptoRow : OpenClaim := { program := "ytjjodmkblpdnhaadoor", sum := "11523c83d4b142b21ffd11256a74367413fe48ef7ce4c617b4712a8ca0e25cf8", func := "marches/marcheslaw28.InterpMoves", spec := "interpMoves", unfollowed := true, recurses := true, named := ["marches/store.ranges"], apart := false, laid := [("marches/store.ranges", laid_marches_store_ranges)], narrowed := true }
def InterpMovesUptoSaid : Prop := interpMovesUptoRow.holds Tryd.pinned (OpenSpec.upto interpMovesSpec)

end Rows
end Go.Proofs.YtjjodmkblpdnhaaDoor
