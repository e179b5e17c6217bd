/- ClientWrong returns true for every argument that a row hands over. -/
import Derived.Test.YtlcjkomfjgddeaaGreatDoorLClientWrong
import Derived.Test.YtlcjkomfjgddeaaGreatDoorOpenC
set_option linter.unusedVariables false
set_option linter.unusedSimpArgs false
namespace Go.Proofs.YtlcjkomfjgddeaaGreatDoor
open Go Go.RowKit Go.Sort
set_option maxRecDepth 100000

theorem clientWrong_all {W : World} (id gx gy t ack : Int) (a : Option Addr) (n cap : Nat) (pa : Option Addr) (pn pc : Nat) (hN : I64 id ∧ I64 gx ∧ I64 gy ∧ I64 t ∧ I64 ack) (hE : EntsRaw W (.slice a n cap)) (hI : InpsRaw W (.slice pa pn pc)) (hc : n ≤ cap) (hd : pn ≤ pc) (nn : Int) (hn : 0 ≤ nn ∧ nn ≤ 255) (mm : Int) (hm : I64 mm) (hR : RG W) (hM : RM W) (hw : 2 ≤ W.heap.size) :
    Calls Tryz.prog 6 #[.agg #[.int .i64 id, .int .i64 gx, .int .i64 gy, .int .i64 t, .slice a n cap, .int .i64 ack, .slice pa pn pc], .int .u8 nn, .int .i64 mm] W fun e w' => e = .returned (.bool true) ∧ Below W.heap.size W w' := by
  by_cases hs : SmallE W a n ∧ pn ≤ 66
  · obtain ⟨es, hes⟩ := EntsRaw.list hE hs.1
    obtain ⟨l, hl, hx⟩ := InpsRaw.list hI (by omega)
    exact cwrong_any ⟨id, gx, gy, ⟨t, es⟩, ack, l⟩ a n cap pa pn pc nn hn mm hm W hR hM hw hes hl hd hx hN
  · exact wrong_big id gx gy t ack a n cap pa pn pc nn hn mm hm W hR hM hw hE hI hs
end Go.Proofs.YtlcjkomfjgddeaaGreatDoor
