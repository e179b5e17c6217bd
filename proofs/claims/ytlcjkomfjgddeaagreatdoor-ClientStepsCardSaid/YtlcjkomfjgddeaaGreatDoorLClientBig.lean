/- ClientSteps on a client that is too large. -/
import Derived.Test.YtlcjkomfjgddeaaGreatDoorLClientSteps
import Derived.Test.YtlcjkomfjgddeaaGreatDoorM42
set_option linter.unusedVariables false
set_option linter.unusedSimpArgs false
namespace Go.Proofs.YtlcjkomfjgddeaaGreatDoor
open Go Go.RowKit Go.Sort
set_option maxRecDepth 100000
attribute [local go_sem] opLow opUpon opLow2 opUpon2 opLow3

theorem InpsRaw.below {w w' : World} {v : Value} (h : InpsRaw w v) (hb : Below w.heap.size w w') : InpsRaw w' v :=
  SlRaw.below (fun b o ⟨x, hx, hi⟩ => ⟨x, InpAt.below' hb b o x hx, hi⟩) h
set_option maxHeartbeats 8000000 in
theorem steps_big (id gx gy t ack : Int) (a : Option Addr) (n cap : Nat) (pa : Option Addr) (pn pc : Nat) (w : World) (hR : RG w) (hM : RM w) (hw : 2 ≤ w.heap.size) (h : EntsRaw w (.slice a n cap)) (hp : InpsRaw w (.slice pa pn pc)) (hbig : ¬ (SmallE w a n ∧ pn ≤ 66)) :
    Calls Tryz.prog 4 #[.agg #[.int .i64 id, .int .i64 gx, .int .i64 gy, .int .i64 t, .slice a n cap, .int .i64 ack, .slice pa pn pc]] w fun e w' => e = .returned (.bool true) ∧ Below w.heap.size w w' := by
  have AWK := Lib.hid (fun V (hV : Below w.heap.size w V) => awake_any V (hR.below hV) (hM.low hV hw) (Nat.le_trans hw hV.size))
  have FW := Lib.hid (fun V (hV : Below w.heap.size w V) => Few_big id gx gy t ack a n cap pa pn pc V (h.below hV) (hp.below hV) (fun q => hbig ⟨q.1.back h hV, q.2⟩))
  clear hR hM hw h hp hbig
  go_enter Tryz.func4, Tryz.ntmps4
  have HB1 := Lib.hid (show Bk (w.alloc (.cells #[.int .i64 id, .int .i64 gx, .int .i64 gy, .int .i64 t, .slice a n cap, .int .i64 ack, .slice pa pn pc] 29)) w.heap.size #[.int .i64 id, .int .i64 gx, .int .i64 gy, .int .i64 t, .slice a n cap, .int .i64 ack, .slice pa pn pc] 29 ∧ Below w.heap.size w (w.alloc (.cells #[.int .i64 id, .int .i64 gx, .int .i64 gy, .int .i64 t, .slice a n cap, .int .i64 ack, .slice pa pn pc] 29)) from ⟨Bk.made _ _ _, by go_grown⟩)
  go_wp2_with fail
  refine (FW.out _ HB1.out.2).mono ?_
  rintro e V1 ⟨rfl, hb1⟩
  obtain ⟨hb, hs⟩ := below_cc hb1 HB1.out.2
  clear hb1 HB1 FW
  go_wp2_with fail
  refine (AWK.out _ hb).mono ?_
  rintro e VA ⟨rfl, hbA⟩
  have hbE := (below_cc hbA hb).1
  clear hbA
  go_wp2
  go_returns
  exact ⟨rfl, hbE⟩
end Go.Proofs.YtlcjkomfjgddeaaGreatDoor
