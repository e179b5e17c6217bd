/-
  No cell of these rows narrows 'for every input' (looked for: loops, veiled, ifaces, maps, wideKeys, modest, calm, conditions, laid).
  DERIVED. THE GIVEN ROWS OF THIS SEAT. 21 by the template 'for every input the law returns true; each argument reads behind the call as it read before'; 0 by the template 'total and deterministic' (their statements: YtolifgjkejhlhaaTotals.lean).
  GIVEN WITH THE SEED: the statements are not yours to turn. If you find one false, say at which input.
  Laid BY PROGRAM, IN A SANDBOX (cutbox-rows.mjs): the forced cells as the released guide's own fill.sh prints them over the translation 7a45b945584afd10… (all of the seat's roots in one cut). By AI agents, Wed Nov 11 2026. No macro, syntax, notation, axiom, sorry.
-/
import Derived.Test.YtolifgjkejhlhaaChecked
import GoSem.Claim
import GoSem.ClaimJoined
import GoSem.ClaimMapViews
import Derived.JoinedTies
import Derived.KernelRfl
namespace Go.Proofs.Ytolifgjkejhlhaa
/- THE CELL 'sum', in the pinned program and in every row, IS THE sha256 OF THE DUMP (.gsa) THAT YtolifgjkejhlhaaProg.lean LOADS. Nothing in Lean hashes anything: it is a label: what it is worth is what the hold of that sum in a sandbox is worth. -/
noncomputable def Try.pinned : Pinned := { name := "ytolifgjkejhlhaa", sum := "7a45b945584afd1060181d10eca8ec09afc6390e27d6b14b40ab0b3df489a392", checked := Try.checked }
namespace Rows
def none {H : Type} : Left H := { results := [], args := [] }

/-- 'marcheslaw01.FixedDivides': WHATEVER THE INPUT: true; the input reads as it did. -/
def fixedDividesSpec : ChangeSpec := { name := "fixedDivides", fn := fun _ => fun
  | [d1, d2, d3] => { results := [.lit (.bool true)], args := [d1, d2, d3] }
  | _ => none }
def fixedDividesRow : OpenClaim := { program := "ytolifgjkejhlhaa", sum := "7a45b945584afd1060181d10eca8ec09afc6390e27d6b14b40ab0b3df489a392", func := "marches/marcheslaw01.FixedDivides", spec := "fixedDivides", apart := false }
def FixedDividesSaid : Prop := fixedDividesRow.holds Try.pinned (OpenSpec.ofChange fixedDividesSpec)

/-- ITS FALSE NEIGHBOUR: 'it returns false'. Refute it at one input. -/
def fixedDividesWrong : ChangeSpec := { name := "fixedDivides", fn := fun _ => fun
  | [d1, d2, d3] => { results := [.lit (.bool false)], args := [d1, d2, d3] }
  | _ => none }
def FixedDividesWrongFalsely : Prop := fixedDividesRow.holds Try.pinned (OpenSpec.ofChange fixedDividesWrong)

/-- 'marcheslaw01.FixedLerps': WHATEVER THE INPUT: true; the input reads as it did. -/
def fixedLerpsSpec : ChangeSpec := { name := "fixedLerps", fn := fun _ => fun
  | [d1, d2, d3, d4, d5] => { results := [.lit (.bool true)], args := [d1, d2, d3, d4, d5] }
  | _ => none }
def fixedLerpsRow : OpenClaim := { program := "ytolifgjkejhlhaa", sum := "7a45b945584afd1060181d10eca8ec09afc6390e27d6b14b40ab0b3df489a392", func := "marches/marcheslaw01.FixedLerps", spec := "fixedLerps", apart := false }
def FixedLerpsSaid : Prop := fixedLerpsRow.holds Try.pinned (OpenSpec.ofChange fixedLerpsSpec)

/-- ITS FALSE NEIGHBOUR: 'it returns false'. Refute it at one input. -/
def fixedLerpsWrong : ChangeSpec := { name := "fixedLerps", fn := fun _ => fun
  | [d1, d2, d3, d4, d5] => { results := [.lit (.bool false)], args := [d1, d2, d3, d4, d5] }
  | _ => none }
def FixedLerpsWrongFalsely : Prop := fixedLerpsRow.holds Try.pinned (OpenSpec.ofChange fixedLerpsWrong)

/-- 'marcheslaw01.FixedScales': WHATEVER THE INPUT: true; the input reads as it did. -/
def fixedScalesSpec : ChangeSpec := { name := "fixedScales", fn := fun _ => fun
  | [d1, d2, d3] => { results := [.lit (.bool true)], args := [d1, d2, d3] }
  | _ => none }
def fixedScalesRow : OpenClaim := { program := "ytolifgjkejhlhaa", sum := "7a45b945584afd1060181d10eca8ec09afc6390e27d6b14b40ab0b3df489a392", func := "marches/marcheslaw01.FixedScales", spec := "fixedScales", apart := false }
def FixedScalesSaid : Prop := fixedScalesRow.holds Try.pinned (OpenSpec.ofChange fixedScalesSpec)

/-- ITS FALSE NEIGHBOUR: 'it returns false'. Refute it at one input. -/
def fixedScalesWrong : ChangeSpec := { name := "fixedScales", fn := fun _ => fun
  | [d1, d2, d3] => { results := [.lit (.bool false)], args := [d1, d2, d3] }
  | _ => none }
def FixedScalesWrongFalsely : Prop := fixedScalesRow.holds Try.pinned (OpenSpec.ofChange fixedScalesWrong)

/-- 'marcheslaw01.FixedClamps': WHATEVER THE INPUT: true; the input reads as it did. -/
def fixedClampsSpec : ChangeSpec := { name := "fixedClamps", fn := fun _ => fun
  | [d1, d2, d3, d4] => { results := [.lit (.bool true)], args := [d1, d2, d3, d4] }
  | _ => none }
def fixedClampsRow : OpenClaim := { program := "ytolifgjkejhlhaa", sum := "7a45b945584afd1060181d10eca8ec09afc6390e27d6b14b40ab0b3df489a392", func := "marches/marcheslaw01.FixedClamps", spec := "fixedClamps", apart := false }
def FixedClampsSaid : Prop := fixedClampsRow.holds Try.pinned (OpenSpec.ofChange fixedClampsSpec)

/-- ITS FALSE NEIGHBOUR: 'it returns false'. Refute it at one input. -/
def fixedClampsWrong : ChangeSpec := { name := "fixedClamps", fn := fun _ => fun
  | [d1, d2, d3, d4] => { results := [.lit (.bool false)], args := [d1, d2, d3, d4] }
  | _ => none }
def FixedClampsWrongFalsely : Prop := fixedClampsRow.holds Try.pinned (OpenSpec.ofChange fixedClampsWrong)

/-- 'marcheslaw01.FixedWrong': WHATEVER THE INPUT: true; the input reads as it did. -/
def fixedWrongSpec : ChangeSpec := { name := "fixedWrong", fn := fun _ => fun
  | [d1, d2, d3] => { results := [.lit (.bool true)], args := [d1, d2, d3] }
  | _ => none }
def fixedWrongRow : OpenClaim := { program := "ytolifgjkejhlhaa", sum := "7a45b945584afd1060181d10eca8ec09afc6390e27d6b14b40ab0b3df489a392", func := "marches/marcheslaw01.FixedWrong", spec := "fixedWrong", apart := false }
def FixedWrongSaid : Prop := fixedWrongRow.holds Try.pinned (OpenSpec.ofChange fixedWrongSpec)

/-- ITS FALSE NEIGHBOUR: 'it returns false'. Refute it at one input. -/
def fixedWrongWrong : ChangeSpec := { name := "fixedWrong", fn := fun _ => fun
  | [d1, d2, d3] => { results := [.lit (.bool false)], args := [d1, d2, d3] }
  | _ => none }
def FixedWrongWrongFalsely : Prop := fixedWrongRow.holds Try.pinned (OpenSpec.ofChange fixedWrongWrong)

/-- 'marcheslaw01.FixedRoots': WHATEVER THE INPUT: true; the input reads as it did. -/
def fixedRootsSpec : ChangeSpec := { name := "fixedRoots", fn := fun _ => fun
  | [d1, d2, d3] => { results := [.lit (.bool true)], args := [d1, d2, d3] }
  | _ => none }
def fixedRootsRow : OpenClaim := { program := "ytolifgjkejhlhaa", sum := "7a45b945584afd1060181d10eca8ec09afc6390e27d6b14b40ab0b3df489a392", func := "marches/marcheslaw01.FixedRoots", spec := "fixedRoots", apart := false }
def FixedRootsSaid : Prop := fixedRootsRow.holds Try.pinned (OpenSpec.ofChange fixedRootsSpec)

/-- ITS FALSE NEIGHBOUR: 'it returns false'. Refute it at one input. -/
def fixedRootsWrong : ChangeSpec := { name := "fixedRoots", fn := fun _ => fun
  | [d1, d2, d3] => { results := [.lit (.bool false)], args := [d1, d2, d3] }
  | _ => none }
def FixedRootsWrongFalsely : Prop := fixedRootsRow.holds Try.pinned (OpenSpec.ofChange fixedRootsWrong)

/-- 'marcheslaw01.FixedSaturates': WHATEVER THE INPUT: true; the input reads as it did. -/
def fixedSaturatesSpec : ChangeSpec := { name := "fixedSaturates", fn := fun _ => fun
  | [d1, d2, d3] => { results := [.lit (.bool true)], args := [d1, d2, d3] }
  | _ => none }
def fixedSaturatesRow : OpenClaim := { program := "ytolifgjkejhlhaa", sum := "7a45b945584afd1060181d10eca8ec09afc6390e27d6b14b40ab0b3df489a392", func := "marches/marcheslaw01.FixedSaturates", spec := "fixedSaturates", apart := false }
def FixedSaturatesSaid : Prop := fixedSaturatesRow.holds Try.pinned (OpenSpec.ofChange fixedSaturatesSpec)

/-- ITS FALSE NEIGHBOUR: 'it returns false'. Refute it at one input. -/
def fixedSaturatesWrong : ChangeSpec := { name := "fixedSaturates", fn := fun _ => fun
  | [d1, d2, d3] => { results := [.lit (.bool false)], args := [d1, d2, d3] }
  | _ => none }
def FixedSaturatesWrongFalsely : Prop := fixedSaturatesRow.holds Try.pinned (OpenSpec.ofChange fixedSaturatesWrong)

/-- 'marcheslaw21.QuantStable': WHATEVER THE INPUT: true; the input reads as it did. -/
def quantStableSpec : ChangeSpec := { name := "quantStable", fn := fun _ => fun
  | [d1, d2, d3, d4, d5] => { results := [.lit (.bool true)], args := [d1, d2, d3, d4, d5] }
  | _ => none }
def quantStableRow : OpenClaim := { program := "ytolifgjkejhlhaa", sum := "7a45b945584afd1060181d10eca8ec09afc6390e27d6b14b40ab0b3df489a392", func := "marches/marcheslaw21.QuantStable", spec := "quantStable", unfollowed := true, recurses := true, apart := false }
def QuantStableSaid : Prop := quantStableRow.holds Try.pinned (OpenSpec.ofChange quantStableSpec)

/-- ITS FALSE NEIGHBOUR: 'it returns false'. Refute it at one input. -/
def quantStableWrong : ChangeSpec := { name := "quantStable", fn := fun _ => fun
  | [d1, d2, d3, d4, d5] => { results := [.lit (.bool false)], args := [d1, d2, d3, d4, d5] }
  | _ => none }
def QuantStableWrongFalsely : Prop := quantStableRow.holds Try.pinned (OpenSpec.ofChange quantStableWrong)

/-- 'marcheslaw21.QuantOrder': WHATEVER THE INPUT: true; the input reads as it did. -/
def quantOrderSpec : ChangeSpec := { name := "quantOrder", fn := fun _ => fun
  | [d1, d2, d3, d4, d5, d6, d7] => { results := [.lit (.bool true)], args := [d1, d2, d3, d4, d5, d6, d7] }
  | _ => none }
def quantOrderRow : OpenClaim := { program := "ytolifgjkejhlhaa", sum := "7a45b945584afd1060181d10eca8ec09afc6390e27d6b14b40ab0b3df489a392", func := "marches/marcheslaw21.QuantOrder", spec := "quantOrder", unfollowed := true, recurses := true, apart := false }
def QuantOrderSaid : Prop := quantOrderRow.holds Try.pinned (OpenSpec.ofChange quantOrderSpec)

/-- ITS FALSE NEIGHBOUR: 'it returns false'. Refute it at one input. -/
def quantOrderWrong : ChangeSpec := { name := "quantOrder", fn := fun _ => fun
  | [d1, d2, d3, d4, d5, d6, d7] => { results := [.lit (.bool false)], args := [d1, d2, d3, d4, d5, d6, d7] }
  | _ => none }
def QuantOrderWrongFalsely : Prop := quantOrderRow.holds Try.pinned (OpenSpec.ofChange quantOrderWrong)

/-- 'marcheslaw21.QuantMoves': WHATEVER THE INPUT: true; the input reads as it did. -/
def quantMovesSpec : ChangeSpec := { name := "quantMoves", fn := fun _ => fun
  | [d1, d2, d3, d4, d5] => { results := [.lit (.bool true)], args := [d1, d2, d3, d4, d5] }
  | _ => none }
def quantMovesRow : OpenClaim := { program := "ytolifgjkejhlhaa", sum := "7a45b945584afd1060181d10eca8ec09afc6390e27d6b14b40ab0b3df489a392", func := "marches/marcheslaw21.QuantMoves", spec := "quantMoves", unfollowed := true, recurses := true, apart := false }
def QuantMovesSaid : Prop := quantMovesRow.holds Try.pinned (OpenSpec.ofChange quantMovesSpec)

/-- ITS FALSE NEIGHBOUR: 'it returns false'. Refute it at one input. -/
def quantMovesWrong : ChangeSpec := { name := "quantMoves", fn := fun _ => fun
  | [d1, d2, d3, d4, d5] => { results := [.lit (.bool false)], args := [d1, d2, d3, d4, d5] }
  | _ => none }
def QuantMovesWrongFalsely : Prop := quantMovesRow.holds Try.pinned (OpenSpec.ofChange quantMovesWrong)

/-- 'marcheslaw21.QuantFits': WHATEVER THE INPUT: true; the input reads as it did. -/
def quantFitsSpec : ChangeSpec := { name := "quantFits", fn := fun _ => fun
  | [d1, d2, d3] => { results := [.lit (.bool true)], args := [d1, d2, d3] }
  | _ => none }
def quantFitsRow : OpenClaim := { program := "ytolifgjkejhlhaa", sum := "7a45b945584afd1060181d10eca8ec09afc6390e27d6b14b40ab0b3df489a392", func := "marches/marcheslaw21.QuantFits", spec := "quantFits", unfollowed := true, recurses := true, apart := false }
def QuantFitsSaid : Prop := quantFitsRow.holds Try.pinned (OpenSpec.ofChange quantFitsSpec)

/-- ITS FALSE NEIGHBOUR: 'it returns false'. Refute it at one input. -/
def quantFitsWrong : ChangeSpec := { name := "quantFits", fn := fun _ => fun
  | [d1, d2, d3] => { results := [.lit (.bool false)], args := [d1, d2, d3] }
  | _ => none }
def QuantFitsWrongFalsely : Prop := quantFitsRow.holds Try.pinned (OpenSpec.ofChange quantFitsWrong)

/-- 'marcheslaw02.VecSides': WHATEVER THE INPUT: true; the input reads as it did. -/
def vecSidesSpec : ChangeSpec := { name := "vecSides", fn := fun _ => fun
  | [d1, d2, d3, d4, d5, d6, d7, d8, d9] => { results := [.lit (.bool true)], args := [d1, d2, d3, d4, d5, d6, d7, d8, d9] }
  | _ => none }
def vecSidesRow : OpenClaim := { program := "ytolifgjkejhlhaa", sum := "7a45b945584afd1060181d10eca8ec09afc6390e27d6b14b40ab0b3df489a392", func := "marches/marcheslaw02.VecSides", spec := "vecSides", apart := false }
def VecSidesSaid : Prop := vecSidesRow.holds Try.pinned (OpenSpec.ofChange vecSidesSpec)

/-- ITS FALSE NEIGHBOUR: 'it returns false'. Refute it at one input. -/
def vecSidesWrong : ChangeSpec := { name := "vecSides", fn := fun _ => fun
  | [d1, d2, d3, d4, d5, d6, d7, d8, d9] => { results := [.lit (.bool false)], args := [d1, d2, d3, d4, d5, d6, d7, d8, d9] }
  | _ => none }
def VecSidesWrongFalsely : Prop := vecSidesRow.holds Try.pinned (OpenSpec.ofChange vecSidesWrong)

/-- 'marcheslaw02.VecScales': WHATEVER THE INPUT: true; the input reads as it did. -/
def vecScalesSpec : ChangeSpec := { name := "vecScales", fn := fun _ => fun
  | [d1, d2, d3, d4] => { results := [.lit (.bool true)], args := [d1, d2, d3, d4] }
  | _ => none }
def vecScalesRow : OpenClaim := { program := "ytolifgjkejhlhaa", sum := "7a45b945584afd1060181d10eca8ec09afc6390e27d6b14b40ab0b3df489a392", func := "marches/marcheslaw02.VecScales", spec := "vecScales", apart := false }
def VecScalesSaid : Prop := vecScalesRow.holds Try.pinned (OpenSpec.ofChange vecScalesSpec)

/-- ITS FALSE NEIGHBOUR: 'it returns false'. Refute it at one input. -/
def vecScalesWrong : ChangeSpec := { name := "vecScales", fn := fun _ => fun
  | [d1, d2, d3, d4] => { results := [.lit (.bool false)], args := [d1, d2, d3, d4] }
  | _ => none }
def VecScalesWrongFalsely : Prop := vecScalesRow.holds Try.pinned (OpenSpec.ofChange vecScalesWrong)

/-- 'marcheslaw02.VecMirrors': WHATEVER THE INPUT: true; the input reads as it did. -/
def vecMirrorsSpec : ChangeSpec := { name := "vecMirrors", fn := fun _ => fun
  | [d1, d2, d3, d4, d5, d6, d7] => { results := [.lit (.bool true)], args := [d1, d2, d3, d4, d5, d6, d7] }
  | _ => none }
def vecMirrorsRow : OpenClaim := { program := "ytolifgjkejhlhaa", sum := "7a45b945584afd1060181d10eca8ec09afc6390e27d6b14b40ab0b3df489a392", func := "marches/marcheslaw02.VecMirrors", spec := "vecMirrors", apart := false }
def VecMirrorsSaid : Prop := vecMirrorsRow.holds Try.pinned (OpenSpec.ofChange vecMirrorsSpec)

/-- ITS FALSE NEIGHBOUR: 'it returns false'. Refute it at one input. -/
def vecMirrorsWrong : ChangeSpec := { name := "vecMirrors", fn := fun _ => fun
  | [d1, d2, d3, d4, d5, d6, d7] => { results := [.lit (.bool false)], args := [d1, d2, d3, d4, d5, d6, d7] }
  | _ => none }
def VecMirrorsWrongFalsely : Prop := vecMirrorsRow.holds Try.pinned (OpenSpec.ofChange vecMirrorsWrong)

/-- 'marcheslaw02.VecTriangle': WHATEVER THE INPUT: true; the input reads as it did. -/
def vecTriangleSpec : ChangeSpec := { name := "vecTriangle", fn := fun _ => fun
  | [d1, d2, d3] => { results := [.lit (.bool true)], args := [d1, d2, d3] }
  | _ => none }
def vecTriangleRow : OpenClaim := { program := "ytolifgjkejhlhaa", sum := "7a45b945584afd1060181d10eca8ec09afc6390e27d6b14b40ab0b3df489a392", func := "marches/marcheslaw02.VecTriangle", spec := "vecTriangle", apart := false }
def VecTriangleSaid : Prop := vecTriangleRow.holds Try.pinned (OpenSpec.ofChange vecTriangleSpec)

/-- ITS FALSE NEIGHBOUR: 'it returns false'. Refute it at one input. -/
def vecTriangleWrong : ChangeSpec := { name := "vecTriangle", fn := fun _ => fun
  | [d1, d2, d3] => { results := [.lit (.bool false)], args := [d1, d2, d3] }
  | _ => none }
def VecTriangleWrongFalsely : Prop := vecTriangleRow.holds Try.pinned (OpenSpec.ofChange vecTriangleWrong)

/-- 'marcheslaw02.VecLimits': WHATEVER THE INPUT: true; the input reads as it did. -/
def vecLimitsSpec : ChangeSpec := { name := "vecLimits", fn := fun _ => fun
  | [d1, d2, d3] => { results := [.lit (.bool true)], args := [d1, d2, d3] }
  | _ => none }
def vecLimitsRow : OpenClaim := { program := "ytolifgjkejhlhaa", sum := "7a45b945584afd1060181d10eca8ec09afc6390e27d6b14b40ab0b3df489a392", func := "marches/marcheslaw02.VecLimits", spec := "vecLimits", apart := false }
def VecLimitsSaid : Prop := vecLimitsRow.holds Try.pinned (OpenSpec.ofChange vecLimitsSpec)

/-- ITS FALSE NEIGHBOUR: 'it returns false'. Refute it at one input. -/
def vecLimitsWrong : ChangeSpec := { name := "vecLimits", fn := fun _ => fun
  | [d1, d2, d3] => { results := [.lit (.bool false)], args := [d1, d2, d3] }
  | _ => none }
def VecLimitsWrongFalsely : Prop := vecLimitsRow.holds Try.pinned (OpenSpec.ofChange vecLimitsWrong)

/-- 'marcheslaw21.QuantError': WHATEVER THE INPUT: true; the input reads as it did. -/
def quantErrorSpec : ChangeSpec := { name := "quantError", fn := fun _ => fun
  | [d1, d2, d3, d4] => { results := [.lit (.bool true)], args := [d1, d2, d3, d4] }
  | _ => none }
def quantErrorRow : OpenClaim := { program := "ytolifgjkejhlhaa", sum := "7a45b945584afd1060181d10eca8ec09afc6390e27d6b14b40ab0b3df489a392", func := "marches/marcheslaw21.QuantError", spec := "quantError", unfollowed := true, recurses := true, apart := false }
def QuantErrorSaid : Prop := quantErrorRow.holds Try.pinned (OpenSpec.ofChange quantErrorSpec)

/-- ITS FALSE NEIGHBOUR: 'it returns false'. Refute it at one input. -/
def quantErrorWrong : ChangeSpec := { name := "quantError", fn := fun _ => fun
  | [d1, d2, d3, d4] => { results := [.lit (.bool false)], args := [d1, d2, d3, d4] }
  | _ => none }
def QuantErrorWrongFalsely : Prop := quantErrorRow.holds Try.pinned (OpenSpec.ofChange quantErrorWrong)

/-- 'marcheslaw02.VecArrives': WHATEVER THE INPUT: true; the input reads as it did. -/
def vecArrivesSpec : ChangeSpec := { name := "vecArrives", fn := fun _ => fun
  | [d1, d2, d3, d4, d5] => { results := [.lit (.bool true)], args := [d1, d2, d3, d4, d5] }
  | _ => none }
def vecArrivesRow : OpenClaim := { program := "ytolifgjkejhlhaa", sum := "7a45b945584afd1060181d10eca8ec09afc6390e27d6b14b40ab0b3df489a392", func := "marches/marcheslaw02.VecArrives", spec := "vecArrives", apart := false }
def VecArrivesSaid : Prop := vecArrivesRow.holds Try.pinned (OpenSpec.ofChange vecArrivesSpec)

/-- ITS FALSE NEIGHBOUR: 'it returns false'. Refute it at one input. -/
def vecArrivesWrong : ChangeSpec := { name := "vecArrives", fn := fun _ => fun
  | [d1, d2, d3, d4, d5] => { results := [.lit (.bool false)], args := [d1, d2, d3, d4, d5] }
  | _ => none }
def VecArrivesWrongFalsely : Prop := vecArrivesRow.holds Try.pinned (OpenSpec.ofChange vecArrivesWrong)

/-- 'marcheslaw02.VecProducts': WHATEVER THE INPUT: true; the input reads as it did. -/
def vecProductsSpec : ChangeSpec := { name := "vecProducts", fn := fun _ => fun
  | [d1, d2, d3, d4] => { results := [.lit (.bool true)], args := [d1, d2, d3, d4] }
  | _ => none }
def vecProductsRow : OpenClaim := { program := "ytolifgjkejhlhaa", sum := "7a45b945584afd1060181d10eca8ec09afc6390e27d6b14b40ab0b3df489a392", func := "marches/marcheslaw02.VecProducts", spec := "vecProducts", apart := false }
def VecProductsSaid : Prop := vecProductsRow.holds Try.pinned (OpenSpec.ofChange vecProductsSpec)

/-- ITS FALSE NEIGHBOUR: 'it returns false'. Refute it at one input. -/
def vecProductsWrong : ChangeSpec := { name := "vecProducts", fn := fun _ => fun
  | [d1, d2, d3, d4] => { results := [.lit (.bool false)], args := [d1, d2, d3, d4] }
  | _ => none }
def VecProductsWrongFalsely : Prop := vecProductsRow.holds Try.pinned (OpenSpec.ofChange vecProductsWrong)

/-- 'marcheslaw21.QuantWrong': WHATEVER THE INPUT: true; the input reads as it did. -/
def quantWrongSpec : ChangeSpec := { name := "quantWrong", fn := fun _ => fun
  | [d1, d2, d3, d4] => { results := [.lit (.bool true)], args := [d1, d2, d3, d4] }
  | _ => none }
def quantWrongRow : OpenClaim := { program := "ytolifgjkejhlhaa", sum := "7a45b945584afd1060181d10eca8ec09afc6390e27d6b14b40ab0b3df489a392", func := "marches/marcheslaw21.QuantWrong", spec := "quantWrong", unfollowed := true, recurses := true, apart := false }
def QuantWrongSaid : Prop := quantWrongRow.holds Try.pinned (OpenSpec.ofChange quantWrongSpec)

/-- ITS FALSE NEIGHBOUR: 'it returns false'. Refute it at one input. -/
def quantWrongWrong : ChangeSpec := { name := "quantWrong", fn := fun _ => fun
  | [d1, d2, d3, d4] => { results := [.lit (.bool false)], args := [d1, d2, d3, d4] }
  | _ => none }
def QuantWrongWrongFalsely : Prop := quantWrongRow.holds Try.pinned (OpenSpec.ofChange quantWrongWrong)

/-- 'marcheslaw21.QuantPlanes': WHATEVER THE INPUT: true; the input reads as it did. -/
def quantPlanesSpec : ChangeSpec := { name := "quantPlanes", fn := fun _ => fun
  | [d1, d2, d3, d4, d5, d6, d7] => { results := [.lit (.bool true)], args := [d1, d2, d3, d4, d5, d6, d7] }
  | _ => none }
def quantPlanesRow : OpenClaim := { program := "ytolifgjkejhlhaa", sum := "7a45b945584afd1060181d10eca8ec09afc6390e27d6b14b40ab0b3df489a392", func := "marches/marcheslaw21.QuantPlanes", spec := "quantPlanes", unfollowed := true, recurses := true, apart := false }
def QuantPlanesSaid : Prop := quantPlanesRow.holds Try.pinned (OpenSpec.ofChange quantPlanesSpec)

/-- ITS FALSE NEIGHBOUR: 'it returns false'. Refute it at one input. -/
def quantPlanesWrong : ChangeSpec := { name := "quantPlanes", fn := fun _ => fun
  | [d1, d2, d3, d4, d5, d6, d7] => { results := [.lit (.bool false)], args := [d1, d2, d3, d4, d5, d6, d7] }
  | _ => none }
def QuantPlanesWrongFalsely : Prop := quantPlanesRow.holds Try.pinned (OpenSpec.ofChange quantPlanesWrong)

/- THE SECOND FORM. 'bulk': how many values and letters a reading holds, each counted each time it is reached (what is shared counts as often as it is met; a slice's spare places count too). A statement '..UptoSaid' is the law's where the arguments, and the package variables that the reading takes, are together of bulk at most 1048576: NARROWER than '..Said'. Prove '..Said' where nothing that the law and all that it calls make is longer than what came in: it says more and counts as full. Else prove '..UptoSaid'. A law counts once. -/
mutual
def uptoBulk {H : Type} : DataW H → Nat
  | .lit (.string bytes) => bytes.length + 1
  | .lit _ => 1
  | .nil => 1
  | .ptr d => uptoBulk d + 1
  | .slice elems spare => uptoBulkAll elems + uptoBulkAll spare + 1
  | .agg parts => uptoBulkAll parts + 1
  | .iface _ d => uptoBulk d + 1
  | .map entries => uptoBulkEntries entries + 1
  | .held _ => 1
def uptoBulkAll {H : Type} : List (DataW H) → Nat
  | [] => 0
  | d :: r => uptoBulk d + uptoBulkAll r
def uptoBulkEntries {H : Type} : List (Lit × DataW H) → Nat
  | [] => 0
  | x :: r => uptoBulkEntry x + uptoBulkEntries r
def uptoBulkEntry {H : Type} : Lit × DataW H → Nat
  | (.string bytes, d) => bytes.length + uptoBulk d + 1
  | (_, d) => uptoBulk d + 1
 end
def uptoSmall : (H : Type) → List (DataW H) → Bool := fun _ ds => decide (uptoBulkAll ds ≤ 1048576)
def OpenSpec.upto (s : _root_.Go.ChangeSpec) : _root_.Go.OpenSpec := { _root_.Go.OpenSpec.ofChange s with cond := some uptoSmall }

/-- 'marcheslaw01.FixedDivides', WHERE WHAT IT READS IS OF BULK AT MOST 1048576: true; the input reads as it did. -/
def fixedDividesUptoRow : OpenClaim := { program := "ytolifgjkejhlhaa", sum := "7a45b945584afd1060181d10eca8ec09afc6390e27d6b14b40ab0b3df489a392", func := "marches/marcheslaw01.FixedDivides", spec := "fixedDivides", apart := false, narrowed := true }
def FixedDividesUptoSaid : Prop := fixedDividesUptoRow.holds Try.pinned (OpenSpec.upto fixedDividesSpec)

/-- 'marcheslaw01.FixedLerps', WHERE WHAT IT READS IS OF BULK AT MOST 1048576: true; the input reads as it did. -/
def fixedLerpsUptoRow : OpenClaim := { program := "ytolifgjkejhlhaa", sum := "7a45b945584afd1060181d10eca8ec09afc6390e27d6b14b40ab0b3df489a392", func := "marches/marcheslaw01.FixedLerps", spec := "fixedLerps", apart := false, narrowed := true }
def FixedLerpsUptoSaid : Prop := fixedLerpsUptoRow.holds Try.pinned (OpenSpec.upto fixedLerpsSpec)

/-- 'marcheslaw01.FixedScales', WHERE WHAT IT READS IS OF BULK AT MOST 1048576: true; the input reads as it did. -/
def fixedScalesUptoRow : OpenClaim := { program := "ytolifgjkejhlhaa", sum := "7a45b945584afd1060181d10eca8ec09afc6390e27d6b14b40ab0b3df489a392", func := "marches/marcheslaw01.FixedScales", spec := "fixedScales", apart := false, narrowed := true }
def FixedScalesUptoSaid : Prop := fixedScalesUptoRow.holds Try.pinned (OpenSpec.upto fixedScalesSpec)

/-- 'marcheslaw01.FixedClamps', WHERE WHAT IT READS IS OF BULK AT MOST 1048576: true; the input reads as it did. -/
def fixedClampsUptoRow : OpenClaim := { program := "ytolifgjkejhlhaa", sum := "7a45b945584afd1060181d10eca8ec09afc6390e27d6b14b40ab0b3df489a392", func := "marches/marcheslaw01.FixedClamps", spec := "fixedClamps", apart := false, narrowed := true }
def FixedClampsUptoSaid : Prop := fixedClampsUptoRow.holds Try.pinned (OpenSpec.upto fixedClampsSpec)

/-- 'marcheslaw01.FixedWrong', WHERE WHAT IT READS IS OF BULK AT MOST 1048576: true; the input reads as it did. -/
def fixedWrongUptoRow : OpenClaim := { program := "ytolifgjkejhlhaa", sum := "7a45b945584afd1060181d10eca8ec09afc6390e27d6b14b40ab0b3df489a392", func := "marches/marcheslaw01.FixedWrong", spec := "fixedWrong", apart := false, narrowed := true }
def FixedWrongUptoSaid : Prop := fixedWrongUptoRow.holds Try.pinned (OpenSpec.upto fixedWrongSpec)

/-- 'marcheslaw01.FixedRoots', WHERE WHAT IT READS IS OF BULK AT MOST 1048576: true; the input reads as it did. -/
def fixedRootsUptoRow : OpenClaim := { program := "ytolifgjkejhlhaa", sum := "7a45b945584afd1060181d10eca8ec09afc6390e27d6b14b40ab0b3df489a392", func := "marches/marcheslaw01.FixedRoots", spec := "fixedRoots", apart := false, narrowed := true }
def FixedRootsUptoSaid : Prop := fixedRootsUptoRow.holds Try.pinned (OpenSpec.upto fixedRootsSpec)

/-- 'marcheslaw01.FixedSaturates', WHERE WHAT IT READS IS OF BULK AT MOST 1048576: true; the input reads as it did. -/
def fixedSaturatesUptoRow : OpenClaim := { program := "ytolifgjkejhlhaa", sum := "7a45b945584afd1060181d10eca8ec09afc6390e27d6b14b40ab0b3df489a392", func := "marches/marcheslaw01.FixedSaturates", spec := "fixedSaturates", apart := false, narrowed := true }
def FixedSaturatesUptoSaid : Prop := fixedSaturatesUptoRow.holds Try.pinned (OpenSpec.upto fixedSaturatesSpec)

/-- 'marcheslaw21.QuantStable', WHERE WHAT IT READS IS OF BULK AT MOST 1048576: true; the input reads as it did. -/
def quantStableUptoRow : OpenClaim := { program := "ytolifgjkejhlhaa", sum := "7a45b945584afd1060181d10eca8ec09afc6390e27d6b14b40ab0b3df489a392", func := "marches/marcheslaw21.QuantStable", spec := "quantStable", unfollowed := true, recurses := true, apart := false, narrowed := true }
def QuantStableUptoSaid : Prop := quantStableUptoRow.holds Try.pinned (OpenSpec.upto quantStableSpec)

/-- 'marcheslaw21.QuantOrder', WHERE WHAT IT READS IS OF BULK AT MOST 1048576: true; the input reads as it did. -/
def quantOrderUptoRow : OpenClaim := { program := "ytolifgjkejhlhaa", sum := "7a45b945584afd1060181d10eca8ec09afc6390e27d6b14b40ab0b3df489a392", func := "marches/marcheslaw21.QuantOrder", spec := "quantOrder", unfollowed := true, recurses := true, apart := false, narrowed := true }
def QuantOrderUptoSaid : Prop := quantOrderUptoRow.holds Try.pinned (OpenSpec.upto quantOrderSpec)

/-- 'marcheslaw21.QuantMoves', WHERE WHAT IT READS IS OF BULK AT MOST 1048576: true; the input reads as it did. -/
def quantMovesUptoRow : OpenClaim := { program := "ytolifgjkejhlhaa", sum := "7a45b945584afd1060181d10eca8ec09afc6390e27d6b14b40ab0b3df489a392", func := "marches/marcheslaw21.QuantMoves", spec := "quantMoves", unfollowed := true, recurses := true, apart := false, narrowed := true }
def QuantMovesUptoSaid : Prop := quantMovesUptoRow.holds Try.pinned (OpenSpec.upto quantMovesSpec)

/-- 'marcheslaw21.QuantFits', WHERE WHAT IT READS IS OF BULK AT MOST 1048576: true; the input reads as it did. -/
def quantFitsUptoRow : OpenClaim := { program := "ytolifgjkejhlhaa", sum := "7a45b945584afd1060181d10eca8ec09afc6390e27d6b14b40ab0b3df489a392", func := "marches/marcheslaw21.QuantFits", spec := "quantFits", unfollowed := true, recurses := true, apart := false, narrowed := true }
def QuantFitsUptoSaid : Prop := quantFitsUptoRow.holds Try.pinned (OpenSpec.upto quantFitsSpec)

/-- 'marcheslaw02.VecSides', WHERE WHAT IT READS IS OF BULK AT MOST 1048576: true; the input reads as it did. -/
def vecSidesUptoRow : OpenClaim := { program := "ytolifgjkejhlhaa", sum := "7a45b945584afd1060181d10eca8ec09afc6390e27d6b14b40ab0b3df489a392", func := "marches/marcheslaw02.VecSides", spec := "vecSides", apart := false, narrowed := true }
def VecSidesUptoSaid : Prop := vecSidesUptoRow.holds Try.pinned (OpenSpec.upto vecSidesSpec)

/-- 'marcheslaw02.VecScales', WHERE WHAT IT READS IS OF BULK AT MOST 1048576: true; the input reads as it did. -/
def vecScalesUptoRow : OpenClaim := { program := "ytolifgjkejhlhaa", sum := "7a45b945584afd1060181d10eca8ec09afc6390e27d6b14b40ab0b3df489a392", func := "marches/marcheslaw02.VecScales", spec := "vecScales", apart := false, narrowed := true }
def VecScalesUptoSaid : Prop := vecScalesUptoRow.holds Try.pinned (OpenSpec.upto vecScalesSpec)

/-- 'marcheslaw02.VecMirrors', WHERE WHAT IT READS IS OF BULK AT MOST 1048576: true; the input reads as it did. -/
def vecMirrorsUptoRow : OpenClaim := { program := "ytolifgjkejhlhaa", sum := "7a45b945584afd1060181d10eca8ec09afc6390e27d6b14b40ab0b3df489a392", func := "marches/marcheslaw02.VecMirrors", spec := "vecMirrors", apart := false, narrowed := true }
def VecMirrorsUptoSaid : Prop := vecMirrorsUptoRow.holds Try.pinned (OpenSpec.upto vecMirrorsSpec)

/-- 'marcheslaw02.VecTriangle', WHERE WHAT IT READS IS OF BULK AT MOST 1048576: true; the input reads as it did. -/
def vecTriangleUptoRow : OpenClaim := { program := "ytolifgjkejhlhaa", sum := "7a45b945584afd1060181d10eca8ec09afc6390e27d6b14b40ab0b3df489a392", func := "marches/marcheslaw02.VecTriangle", spec := "vecTriangle", apart := false, narrowed := true }
def VecTriangleUptoSaid : Prop := vecTriangleUptoRow.holds Try.pinned (OpenSpec.upto vecTriangleSpec)

/-- 'marcheslaw02.VecLimits', WHERE WHAT IT READS IS OF BULK AT MOST 1048576: true; the input reads as it did. -/
def vecLimitsUptoRow : OpenClaim := { program := "ytolifgjkejhlhaa", sum := "7a45b945584afd1060181d10eca8ec09afc6390e27d6b14b40ab0b3df489a392", func := "marches/marcheslaw02.VecLimits", spec := "vecLimits", apart := false, narrowed := true }
def VecLimitsUptoSaid : Prop := vecLimitsUptoRow.holds Try.pinned (OpenSpec.upto vecLimitsSpec)

/-- 'marcheslaw21.QuantError', WHERE WHAT IT READS IS OF BULK AT MOST 1048576: true; the input reads as it did. -/
def quantErrorUptoRow : OpenClaim := { program := "ytolifgjkejhlhaa", sum := "7a45b945584afd1060181d10eca8ec09afc6390e27d6b14b40ab0b3df489a392", func := "marches/marcheslaw21.QuantError", spec := "quantError", unfollowed := true, recurses := true, apart := false, narrowed := true }
def QuantErrorUptoSaid : Prop := quantErrorUptoRow.holds Try.pinned (OpenSpec.upto quantErrorSpec)

/-- 'marcheslaw02.VecArrives', WHERE WHAT IT READS IS OF BULK AT MOST 1048576: true; the input reads as it did. -/
def vecArrivesUptoRow : OpenClaim := { program := "ytolifgjkejhlhaa", sum := "7a45b945584afd1060181d10eca8ec09afc6390e27d6b14b40ab0b3df489a392", func := "marches/marcheslaw02.VecArrives", spec := "vecArrives", apart := false, narrowed := true }
def VecArrivesUptoSaid : Prop := vecArrivesUptoRow.holds Try.pinned (OpenSpec.upto vecArrivesSpec)

/-- 'marcheslaw02.VecProducts', WHERE WHAT IT READS IS OF BULK AT MOST 1048576: true; the input reads as it did. -/
def vecProductsUptoRow : OpenClaim := { program := "ytolifgjkejhlhaa", sum := "7a45b945584afd1060181d10eca8ec09afc6390e27d6b14b40ab0b3df489a392", func := "marches/marcheslaw02.VecProducts", spec := "vecProducts", apart := false, narrowed := true }
def VecProductsUptoSaid : Prop := vecProductsUptoRow.holds Try.pinned (OpenSpec.upto vecProductsSpec)

/-- 'marcheslaw21.QuantWrong', WHERE WHAT IT READS IS OF BULK AT MOST 1048576: true; the input reads as it did. -/
def quantWrongUptoRow : OpenClaim := { program := "ytolifgjkejhlhaa", sum := "7a45b945584afd1060181d10eca8ec09afc6390e27d6b14b40ab0b3df489a392", func := "marches/marcheslaw21.QuantWrong", spec := "quantWrong", unfollowed := true, recurses := true, apart := false, narrowed := true }
def QuantWrongUptoSaid : Prop := quantWrongUptoRow.holds Try.pinned (OpenSpec.upto quantWrongSpec)

/-- 'marcheslaw21.QuantPlanes', WHERE WHAT IT READS IS OF BULK AT MOST 1048576: true; the input reads as it did. -/
def quantPlanesUptoRow : OpenClaim := { program := "ytolifgjkejhlhaa", sum := "7a45b945584afd1060181d10eca8ec09afc6390e27d6b14b40ab0b3df489a392", func := "marches/marcheslaw21.QuantPlanes", spec := "quantPlanes", unfollowed := true, recurses := true, apart := false, narrowed := true }
def QuantPlanesUptoSaid : Prop := quantPlanesUptoRow.holds Try.pinned (OpenSpec.upto quantPlanesSpec)

end Rows
end Go.Proofs.Ytolifgjkejhlhaa
