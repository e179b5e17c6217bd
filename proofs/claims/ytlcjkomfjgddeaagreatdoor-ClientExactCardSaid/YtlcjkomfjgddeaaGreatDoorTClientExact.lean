/- ClientExact returns true for every argument that a row hands over. -/
import Derived.Test.YtlcjkomfjgddeaaGreatDoorLClientExact
import Derived.Test.YtlcjkomfjgddeaaGreatDoorOpenC
set_option linter.unusedVariables false
set_option linter.unusedSimpArgs false
namespace Go.Proofs.YtlcjkomfjgddeaaGreatDoor
open Go Go.RowKit Go.Sort
set_option maxRecDepth 100000

theorem clientExact_all {W : World} (id gx gy t ack : Int) (a : Option Addr) (n cap : Nat) (pa : Option Addr) (pn pc : Nat) (hN : I64 id ∧ I64 gx ∧ I64 gy ∧ I64 t ∧ I64 ack) (hE : EntsRaw W (.slice a n cap)) (hI : InpsRaw W (.slice pa pn pc)) (hc : n ≤ cap) (hd : pn ≤ pc) (x : Inp) (hX : (I64 x.c ∧ I64 x.s ∧ I64 x.t ∧ I64 x.seen ∧ I64 x.part) ∧ (I64 x.ax ∧ I64 x.ay) ∧ I64 x.mx ∧ I64 x.my) (hR : RG W) (hM : RM W) (hw : 2 ≤ W.heap.size) :
    Calls Tryz.prog 8 #[.agg #[.int .i64 id, .int .i64 gx, .int .i64 gy, .int .i64 t, .slice a n cap, .int .i64 ack, .slice pa pn pc], Iv x] W fun e w' => e = .returned (.bool true) ∧ Below W.heap.size W w' := by
  by_cases hs : SmallE W a n ∧ pn ≤ 66
  · obtain ⟨es, hes⟩ := EntsRaw.list hE hs.1
    obtain ⟨l, hl, hx⟩ := InpsRaw.list hI (by omega)
    exact cexact_law ⟨id, gx, gy, ⟨t, es⟩, ack, l⟩ a n cap pa pn pc x hX.2.2 W hR hM hw hes hl hd hx hN
  · exact exact_big id gx gy t ack a n cap pa pn pc x hX.2.2 W hR hM hw hE hI hs
end Go.Proofs.YtlcjkomfjgddeaaGreatDoor
