/- The walk of ClientWrong. -/
import Derived.Test.YtlcjkomfjgddeaaGreatDoorPushPlain
import Derived.Test.YtlcjkomfjgddeaaGreatDoorM41
import Derived.Test.YtlcjkomfjgddeaaGreatDoorM42
import Derived.Test.YtlcjkomfjgddeaaGreatDoorM39
import Derived.Test.YtlcjkomfjgddeaaGreatDoorM11
import Derived.KernelRfl
import Derived.Maps.AppendAt
import Derived.Deep.RegionHeld3
import Derived.Deep.CutBlock
set_option linter.unusedVariables false
set_option linter.unusedSimpArgs false
namespace Go.Proofs.YtlcjkomfjgddeaaGreatDoor
open Go Go.RowKit Go.Sort
set_option maxRecDepth 100000
attribute [local go_sem] opLow opUpon opLow2 opUpon2 opLow3

theorem last_pred : predR ⟨1073741824, baseM 0 0⟩ 2 0 0 ⟨0, 0, 0, 0, 0, false, 0, 0, 0, 0⟩ = (⟨0, []⟩, 271) := by kernel_rfl
theorem pred_no {W : Wld} {id gx gy : Int} {x : Inp} (h : numB id = false ∨ pullB gx gy = false) : predR W id gx gy x = (⟨0, []⟩, 2) := by
  unfold predR okP
  rw [if_neg]
  simp only [Bool.and_eq_true, not_and, Bool.not_eq_true]
  intro _ h1
  rcases h with h | h
  · rw [h] at h1; cases h1
  · exact h
theorem push_no {c : Cli} {x : Inp} (hv : validC c = true) (h : ¬ x.c = c.id ∨ x.s ≤ c.ack) : pushR c x = (cli0, 2) := by
  have h1 : pushB c x = false := by
    unfold pushB
    rw [hv]
    simp only [Bool.true_and, Bool.and_eq_false_iff, decide_eq_false_iff_not]
    rcases h with h | h
    · exact .inl h
    · right
      have := lastS_ge c.id c.p c.ack (validC_parts hv).2.2.2.2.2
      omega
  unfold pushR
  rw [h1, if_neg (by decide)]
theorem numB_lo (m : Int) : numB (min m 0) = false := by
  unfold numB
  rw [decide_eq_false (by omega)]; rfl
theorem numB_hi (m : Int) : numB (max m 9) = false := by
  unfold numB
  rw [show decide (max m 9 ≤ 8) = false from decide_eq_false (by omega), Bool.and_false]
theorem pullB_hi (x m : Int) : pullB x (max m 4097) = false := by
  unfold pullB
  rw [show decide (max x (max m 4097) ≤ 4096) = false from decide_eq_false (by omega), Bool.false_and]
theorem ce_z {w : World} {k : Int} {e : Ending} {w' : World} (h : CEPost w (cli0, k) e w') : ∃ a n cap pa pn pc, e = .returned (.tuple #[.agg #[.int .i64 0, .int .i64 0, .int .i64 0, .int .i64 0, .slice a n cap, .int .i64 0, .slice pa pn pc], .int .i64 k]) ∧ Below w.heap.size w w' := by
  obtain ⟨a, n, cap, pa, pn, pc, he, -, hb⟩ := h
  exact ⟨a, n, cap, pa, pn, pc, he, hb⟩
theorem bad_0 {c : Cli} (m : Int) : validC ⟨min m 0, c.gx, c.gy, c.b, c.ack, c.p⟩ = false := by unfold validC; rw [numB_lo]; rfl
theorem bad_1 {c : Cli} (m : Int) : validC ⟨max m 9, c.gx, c.gy, c.b, c.ack, c.p⟩ = false := by unfold validC; rw [numB_hi]; rfl
theorem bad_2 {c : Cli} (m : Int) : validC ⟨c.id, min m (-4097), c.gy, c.b, c.ack, c.p⟩ = false := by
  have h : pullB (min m (-4097)) c.gy = false := by
    unfold pullB
    rw [show decide (-4096 ≤ min (min m (-4097)) c.gy) = false from decide_eq_false (by omega), Bool.and_false]
  unfold validC
  rw [h, Bool.false_and, Bool.and_false]
theorem bad_3 {c : Cli} (m : Int) : validC ⟨c.id, c.gx, c.gy, ⟨min m (-1), c.b.es⟩, c.ack, c.p⟩ = false := by
  have h : decide (Valid ⟨min m (-1), c.b.es⟩) = false := decide_eq_false (fun q => by have : 0 ≤ min m (-1) := q.1.1; omega)
  unfold validC
  rw [h, Bool.false_and, Bool.and_false, Bool.and_false]
theorem bad_4 {c : Cli} (m : Int) : validC ⟨c.id, c.gx, c.gy, c.b, min m (-1), c.p⟩ = false := by
  have h : decide (0 ≤ min m (-1)) = false := decide_eq_false (by omega)
  unfold validC
  simp only
  rw [h, Bool.false_and, Bool.and_false, Bool.and_false, Bool.and_false]
theorem bad_r {c : Cli} {l : List Inp} (h : risB c.id c.ack l = false) : validC ⟨c.id, c.gx, c.gy, c.b, c.ack, l⟩ = false := by
  unfold validC
  simp only
  rw [h, Bool.and_false, Bool.and_false, Bool.and_false, Bool.and_false, Bool.and_false]
theorem bad_5 {c : Cli} {o s : Int} (h : ¬ o = c.id) : validC ⟨c.id, c.gx, c.gy, c.b, c.ack, [⟨o, s, 0, 0, 0, false, 0, 0, 0, 0⟩] ++ c.p⟩ = false :=
  bad_r (by rw [List.singleton_append, risB, decide_eq_false (by exact h)]; rfl)
theorem bad_6 {c : Cli} : validC ⟨c.id, c.gx, c.gy, c.b, c.ack, [⟨c.id, c.ack, 0, 0, 0, false, 0, 0, 0, 0⟩] ++ c.p⟩ = false :=
  bad_r (by rw [List.singleton_append, risB, show decide (c.ack < (⟨c.id, c.ack, 0, 0, 0, false, 0, 0, 0, 0⟩ : Inp).s) = false from decide_eq_false (by show ¬ c.ack < c.ack; omega), Bool.and_false]; rfl)
theorem bad_7 {c : Cli} {x : Inp} : validC ⟨c.id, c.gx, c.gy, c.b, c.ack, c.p ++ [x, x]⟩ = false :=
  bad_r (by
    rw [show c.p ++ [x, x] = (c.p ++ [x]) ++ [x] by simp, risB_push, lastS_snoc, decide_eq_false (show ¬ x.s < x.s by omega), Bool.and_false, Bool.and_false])
theorem view_no {c : Cli} (h : validC c = false) : viewR c = (⟨0, []⟩, 2) := by unfold viewR; rw [h, if_neg (by decide)]
theorem recv_no {c : Cli} {b : Wld} {k : Int} (h : validC c = false) : recvR c b k = (cli0, 2) := by unfold recvR; rw [h, if_neg (by simp)]
theorem push_no' {c : Cli} {x : Inp} (h : validC c = false) : pushR c x = (cli0, 2) := by
  unfold pushR pushB
  rw [h, Bool.false_and, if_neg (by decide)]
theorem shift_no {c : Cli} {b : Wld} {k i : Int} (h : validC c = false) : shiftR c b k i = ((0, 0), 2) := by unfold shiftR; rw [h, if_neg (by simp)]
theorem bad_view (c : Cli) (a : Option Addr) (n cap : Nat) (pa : Option Addr) (pn pc : Nat) (w : World) (hR : RG w) (hM : RM w) (hw : 2 ≤ w.heap.size) (h : EntsAt w (.slice a n cap) c.b.es) (hp : InpsAt w (.slice pa pn pc) c.p) (hx : I64s c.p) (hv : validC c = false) :
    Calls Tryz.prog 11 #[Cv c a n cap pa pn pc] w (WEPost w (⟨0, []⟩, 2)) := by
  have := view_any c a n cap pa pn pc w hR hM hw h hp hx
  rw [view_no hv] at this
  exact this
theorem bad_recv (c : Cli) (b : Wld) (k : Int) (a : Option Addr) (n cap : Nat) (pa : Option Addr) (pn pc : Nat) (ba : Option Addr) (bn bc : Nat) (w : World) (hR : RG w) (h : EntsAt w (.slice a n cap) c.b.es) (hp : InpsAt w (.slice pa pn pc) c.p) (hB : EntsAt w (.slice ba bn bc) b.es) (hv : validC c = false) :
    Calls Tryz.prog 15 #[Cv c a n cap pa pn pc, Wv b.t ba bn bc, .int .i64 k] w (CEPost w (cli0, 2)) := by
  have := recv_any c b k a n cap pa pn pc ba bn bc w hR h hp hB
  rw [recv_no hv] at this
  exact this
theorem bad_push (c : Cli) (x : Inp) (a : Option Addr) (n cap : Nat) (pa : Option Addr) (pn pc : Nat) (w : World) (hR : RG w) (h : EntsAt w (.slice a n cap) c.b.es) (hp : InpsAt w (.slice pa pn pc) c.p) (hv : validC c = false) :
    Calls Tryz.prog 19 #[Cv c a n cap pa pn pc, Iv x] w (CEPost w (cli0, 2)) := by
  have := push_any c x a n cap pa pn pc w hR h hp
  rw [push_no' hv] at this
  exact this
theorem bad_shift (c : Cli) (b : Wld) (k i : Int) (a : Option Addr) (n cap : Nat) (pa : Option Addr) (pn pc : Nat) (ba : Option Addr) (bn bc : Nat) (w : World) (hR : RG w) (hM : RM w) (hw : 2 ≤ w.heap.size) (h : EntsAt w (.slice a n cap) c.b.es) (hp : InpsAt w (.slice pa pn pc) c.p) (hB : EntsAt w (.slice ba bn bc) b.es) (hx : I64s c.p) (hv : validC c = false) :
    Calls Tryz.prog 16 #[Cv c a n cap pa pn pc, Wv b.t ba bn bc, .int .i64 k, .int .i64 i] w fun e w' => e = .returned (VE 0 0 2) ∧ Below w.heap.size w w' := by
  have := shift_any c b k i a n cap pa pn pc ba bn bc w hR hM hw h hp hB hx
  rw [shift_no hv] at this
  exact this
theorem bad_valid (c : Cli) (a : Option Addr) (n cap : Nat) (pa : Option Addr) (pn pc : Nat) (w : World) (hR : RG w) (h : EntsAt w (.slice a n cap) c.b.es) (hp : InpsAt w (.slice pa pn pc) c.p) (hv : validC c = false) :
    Calls Tryz.prog 12 #[Cv c a n cap pa pn pc] w fun e w' => e = .returned (.bool false) ∧ Below w.heap.size w w' := by
  have := cvalid_any c a n cap pa pn pc w hR h hp
  rw [hv] at this
  exact this
def aZw (k : Int) : Array Value → Value → World → World → Prop := fun _ v w1 w2 => ∃ a n cap pa pn pc, v = .tuple #[.agg #[.int .i64 0, .int .i64 0, .int .i64 0, .int .i64 0, .slice a n cap, .int .i64 0, .slice pa pn pc], .int .i64 k]
/-- append of inputs that lie in memory to a row of the call's own -/
theorem wpList_append_inps {ops : Array Oper} {rest : List Oper} {o : Oper} {a : Act} {Q : Exit → Act → World → Prop} (w : World) (hg : o.guard = none) (s x : Operand)
    (hop : o.op = Op.call { callee := Callee.builtin Builtin.append, args := #[s, x], argTypes := #[27, 27] })
    (base : Nat) (v : Value) (n : Nat) (xs : List Value) (hs : a.eval s = v) (hown : w.ownsRow base 37 10 v n xs)
    (A : Option Addr) (m c : Nat) (l : List Inp) (hx : a.eval x = .slice A m c) (hl : InpsAt w (.slice A m c) l) (b1 : n + m ≤ 1000000) (hbase : base ≤ w.heap.size)
    (hK : ∀ v' w', w'.ownsRow base 37 10 v' (n + m) (xs ++ ivs l) → w.grownBy w' v.ownBlock → (v'.ownBlock = v.ownBlock ∨ v'.ownBlock = some w.heap.size) → wpList Tryz.prog ops Q rest (a.put o.dst v') w') :
    wpList Tryz.prog ops Q (o :: rest) a w := by
  have hm : m = l.length := ListAt.len hl
  have run : ∃ v' w', (Builtin.append_ #[27, 27] o.type #[v, .slice A m c]).run Tryz.prog w = .ok v' w' ∧ w'.ownsRow base 37 10 v' (n + m) (xs ++ ivs l) ∧ w.grownBy w' v.ownBlock ∧ (v'.ownBlock = v.ownBlock ∨ v'.ownBlock = some w.heap.size) := by
    obtain ⟨i0, hi, hz0, hz1, hz2⟩ := info_parts infoI
    rcases A with _ | ad
    · rcases hl with ⟨⟨a0, h1⟩, h2⟩ | ⟨b, off, cap, h1, _⟩
      · injection h1 with q1 q2 q3
        subst q2 q3 h2
        refine ⟨v, w, ?_, by simpa [ivs] using hown, World.grownBy.refl w _, .inl rfl⟩
        rcases hown.2 with ⟨rfl, rfl⟩ | ⟨g, cap, cur, rfl, _, _, hnc, _⟩
        · simp [Builtin.append_, run_underlying Tryz.underlying27, sizeOf, typeInfo, hi, Builtin.lenOf, Builtin.firstCells]
        · simp [Builtin.append_, run_underlying Tryz.underlying27, sizeOf, typeInfo, hi, Builtin.lenOf, Builtin.firstCells, hnc, storeCells]
      · cases h1
    · obtain ⟨v', w', hrun, r1, r2, -, r5⟩ := run_append_own_at (P := Tryz.prog) w base 27 o.type 37 i0 (.agg #[.int .i64 0, .int .i64 0, .int .i64 0, .int .i64 0, .int .i64 0, .bool false, .int .i64 0, .int .i64 0, .int .i64 0, .int .i64 0]) 10 80 Tryz.underlying27 hi hz0 hz1 hz2 rfl (by decide) v n xs hown ad m c (ivs l) (by rw [ivs_len, hm]) (InpsAt.cell hl) (ivs_one l) (by unfold maxLen; omega) (by omega) hbase
      exact ⟨v', w', hrun, r1, r2, r5⟩
  obtain ⟨v', w', hrun, r1, r2, r3⟩ := run
  refine wpList_plain hg fun _ hK' => ?_
  unfold Oper.wp execOp
  simp only [hop, resolve, invoke, builtin, Sem.run_bind, Sem.run_pure, Result.andThen_ok, List.map_toArray, List.map_cons, List.map_nil, hs, hx, hrun]
  exact hK' _ _ (hK v' w' r1 r2 r3)
set_option maxHeartbeats 16000000 in
theorem wrong_1 (c : Cli) (a : Option Addr) (n cap : Nat) (pa : Option Addr) (pn pc : Nat) (nn : Int) (hn : 0 ≤ nn ∧ nn ≤ 255) (mm : Int) (hm : I64 mm) (w : World) (hR : RG w) (hM : RM w) (hw : 2 ≤ w.heap.size) (h : EntsAt w (.slice a n cap) c.b.es) (hp : InpsAt w (.slice pa pn pc) c.p) (hcap : pn ≤ pc) (hx : I64s c.p) (hid : I64 c.id ∧ I64 c.gx ∧ I64 c.gy ∧ I64 c.b.t ∧ I64 c.ack) (hv : validC c = false) :
    Calls Tryz.prog 6 #[Cv c a n cap pa pn pc, .int .u8 nn, .int .i64 mm] w fun e w' => e = .returned (.bool true) ∧ Below w.heap.size w w' := by
  have AWK := Lib.hid (fun V (hV : Below w.heap.size w V) => awake_any V (hR.below hV) (hM.low hV hw) (Nat.le_trans hw hV.size))
  have FW := Lib.hid (fun V (hV : Below w.heap.size w V) => Few_any c a n cap pa pn pc V (EntsAt.below h hV) (InpsAt.below hp hV))
  have VC := Lib.hid (fun V (hV : Below w.heap.size w V) => cvalid_any c a n cap pa pn pc V (hR.below hV) (EntsAt.below h hV) (InpsAt.below hp hV))
  rw [hv] at VC
  clear hR hM hw h hp hx hv hid hm
  unfold Cv ccs at FW VC
  unfold Cv ccs
  go_enter Tryz.func6, Tryz.ntmps6
  have HB1 := Lib.hid (show Bk (w.alloc (.cells #[.int .i64 c.id, .int .i64 c.gx, .int .i64 c.gy, .int .i64 c.b.t, .slice a n cap, .int .i64 c.ack, .slice pa pn pc] 29)) w.heap.size #[.int .i64 c.id, .int .i64 c.gx, .int .i64 c.gy, .int .i64 c.b.t, .slice a n cap, .int .i64 c.ack, .slice pa pn pc] 29 ∧ Below w.heap.size w (w.alloc (.cells #[.int .i64 c.id, .int .i64 c.gx, .int .i64 c.gy, .int .i64 c.b.t, .slice a n cap, .int .i64 c.ack, .slice pa pn pc] 29)) from ⟨Bk.made _ _ _, by go_grown⟩)
  go_wp2_with fail
  refine (FW.out _ HB1.out.2).mono ?_
  rintro e V1 ⟨fb, rfl, hb1⟩
  have B1 := HB1.out.1.below hb1
  obtain ⟨hb, hs⟩ := below_cc hb1 HB1.out.2
  clear hb1 HB1 FW
  cases fb
  · go_wp2_with fail
    refine (AWK.out _ hb).mono ?_
    rintro e VA ⟨rfl, hbA⟩
    have hbE := (below_cc hbA hb).1
    clear hbA
    go_wp2
    go_returns
    exact ⟨rfl, hbE⟩
  · have s0 := B1.cell (v := .int .i64 c.id) 0 rfl
    have s1 := B1.cell (v := .int .i64 c.gx) 1 rfl
    have s2 := B1.cell (v := .int .i64 c.gy) 2 rfl
    have s3 := B1.cell (v := .int .i64 c.b.t) 3 rfl
    have s4 := B1.cell (v := .slice a n cap) 4 rfl
    have s5 := B1.cell (v := .int .i64 c.ack) 5 rfl
    have s6 := B1.cell (v := .slice pa pn pc) 6 rfl
    have sl := B1.lt
    go_wp2_with fail
    refine (VC.out _ hb).mono ?_
    rintro e V1b ⟨rfl, hb4⟩
    replace B1 := B1.below hb4
    obtain ⟨hb, hs⟩ := below_cc hb4 hb
    clear hb4 VC s0 s1 s2 s3 s4 s5 s6 sl
    go_wp2_with fail
    refine (AWK.out _ hb).mono ?_
    rintro e VA ⟨rfl, hbA⟩
    have hbE := (below_cc hbA hb).1
    clear hbA
    go_wp2
    go_returns
    exact ⟨rfl, hbE⟩
set_option maxHeartbeats 16000000 in
theorem wrong_2 (c : Cli) (a : Option Addr) (n cap : Nat) (pa : Option Addr) (pn pc : Nat) (nn : Int) (hn : 0 ≤ nn ∧ nn ≤ 255) (mm : Int) (hm : I64 mm) (w : World) (hR : RG w) (hM : RM w) (hw : 2 ≤ w.heap.size) (h : EntsAt w (.slice a n cap) c.b.es) (hp : InpsAt w (.slice pa pn pc) c.p) (hcap : pn ≤ pc) (hx : I64s c.p) (hid : I64 c.id ∧ I64 c.gx ∧ I64 c.gy ∧ I64 c.b.t ∧ I64 c.ack) (hv : validC c = true) :
    Calls Tryz.prog 6 #[Cv c a n cap pa pn pc, .int .u8 nn, .int .i64 mm] w fun e w' => e = .returned (.bool true) ∧ Below w.heap.size w w' := by
  have AWK := Lib.hid (fun V (hV : Below w.heap.size w V) => awake_any V (hR.below hV) (hM.low hV hw) (Nat.le_trans hw hV.size))
  have FW := Lib.hid (fun V (hV : Below w.heap.size w V) => Few_any c a n cap pa pn pc V (EntsAt.below h hV) (InpsAt.below hp hV))
  have VC := Lib.hid (fun V (hV : Below w.heap.size w V) => cvalid_any c a n cap pa pn pc V (hR.below hV) (EntsAt.below h hV) (InpsAt.below hp hV))
  rw [hv] at VC
  have P1 := Lib.hid (fun X (hX : Below w.heap.size w X) a n k hE => by have := predict_any ⟨1073741824, baseM 0 0⟩ a n k 2 0 0 ⟨0, 0, 0, 0, 0, false, 0, 0, 0, 0⟩ X (hR.below hX) (hM.low hX hw) (Nat.le_trans hw hX.size) hE ⟨⟨by decide, by decide⟩, ⟨by decide, by decide⟩⟩; rw [last_pred] at this; exact this)
  have PU := Lib.hid (fun X (hX : Below w.heap.size w X) (x : Inp) (hq : ¬ x.c = c.id ∨ x.s ≤ c.ack) => by have := push_any c x a n cap pa pn pc X (hR.below hX) (EntsAt.below h hX) (InpsAt.below hp hX); rw [push_no hv hq] at this; exact this)
  have OB := Lib.hid (fun X (hX : Below w.heap.size w X) (i : Int) (hi : numB i = false) => own_bad c.b a n cap i X (hR.below hX) (EntsAt.below h hX) (fun q => by rw [hi] at q; cases q.2))
  have PN := Lib.hid (fun X (hX : Below w.heap.size w X) (i gx gy : Int) (hi : numB i = false ∨ pullB gx gy = false) => by have := predict_any c.b a n cap i gx gy ⟨0, 0, 0, 0, 0, false, 0, 0, 0, 0⟩ X (hR.below hX) (hM.low hX hw) (Nat.le_trans hw hX.size) (EntsAt.below h hX) ⟨⟨by decide, by decide⟩, ⟨by decide, by decide⟩⟩; rw [pred_no hi] at this; exact this)
  have hnb := (validC_parts hv).1
  unfold numB at hnb
  simp only [Bool.and_eq_true, decide_eq_true_eq] at hnb
  obtain ⟨hid1, hid2⟩ := hnb
  have m8 : Int.tmod c.id 8 = c.id % 8 := Int.tmod_eq_emod_of_nonneg (by omega)
  obtain ⟨o8, ho8⟩ : ∃ o, c.id % 8 = o := ⟨_, rfl⟩
  have ho1 : 0 ≤ o8 := by omega
  have ho2 : o8 < 8 := by omega
  have hne : ¬ o8 + 1 = c.id := by omega
  rw [ho8] at m8
  have w8 : IntKind.i64.wrap (o8 + 1) = o8 + 1 := by rw [IntKind.wrap_i64]; omega
  have HNE := Lib.hid hne
  have HCX := Lib.hid (And.intro hR (And.intro hM (And.intro hw (And.intro h (And.intro hp hx)))))
  have HV := Lib.hid hv
  have HID := Lib.hid hid
  have HMI := Lib.hid hm
  clear hR hM hw h hp hx hv ho8 hne hid hm hid1 hid2
  unfold Cv ccs at FW VC
  unfold Cv ccs
  go_enter Tryz.func6, Tryz.ntmps6
  have HB1 := Lib.hid (show Bk (w.alloc (.cells #[.int .i64 c.id, .int .i64 c.gx, .int .i64 c.gy, .int .i64 c.b.t, .slice a n cap, .int .i64 c.ack, .slice pa pn pc] 29)) w.heap.size #[.int .i64 c.id, .int .i64 c.gx, .int .i64 c.gy, .int .i64 c.b.t, .slice a n cap, .int .i64 c.ack, .slice pa pn pc] 29 ∧ Below w.heap.size w (w.alloc (.cells #[.int .i64 c.id, .int .i64 c.gx, .int .i64 c.gy, .int .i64 c.b.t, .slice a n cap, .int .i64 c.ack, .slice pa pn pc] 29)) from ⟨Bk.made _ _ _, by go_grown⟩)
  go_wp2_with fail
  refine (FW.out _ HB1.out.2).mono ?_
  rintro e V1 ⟨fb, rfl, hb1⟩
  have B1 := HB1.out.1.below hb1
  obtain ⟨hb, hs⟩ := below_cc hb1 HB1.out.2
  clear hb1 HB1 FW
  cases fb
  · go_wp2_with fail
    refine (AWK.out _ hb).mono ?_
    rintro e VA ⟨rfl, hbA⟩
    have hbE := (below_cc hbA hb).1
    clear hbA
    go_wp2
    go_returns
    exact ⟨rfl, hbE⟩
  · have s0 := B1.cell (v := .int .i64 c.id) 0 rfl
    have s1 := B1.cell (v := .int .i64 c.gx) 1 rfl
    have s2 := B1.cell (v := .int .i64 c.gy) 2 rfl
    have s3 := B1.cell (v := .int .i64 c.b.t) 3 rfl
    have s4 := B1.cell (v := .slice a n cap) 4 rfl
    have s5 := B1.cell (v := .int .i64 c.ack) 5 rfl
    have s6 := B1.cell (v := .slice pa pn pc) 6 rfl
    have sl := B1.lt
    go_wp2_with fail
    refine (VC.out _ hb).mono ?_
    rintro e V1b ⟨rfl, hb4⟩
    replace B1 := B1.below hb4
    obtain ⟨hb, hs⟩ := below_cc hb4 hb
    clear hb4 VC s0 s1 s2 s3 s4 s5 s6 sl
    go_wp2_with fail
    refine (base_any 1073741824 0 0 _).mono ?_
    rintro e V3 ⟨ba, bn, bc, rfl, hE3, hb3⟩
    replace B1 := B1.below hb3
    obtain ⟨hb, hs⟩ := below_cc hb3 hb
    clear hb3
    unfold Wv
    try simp only
    go_upto_region 4 with fail
    refine wp_name (fun X => (Bk X w.heap.size #[.int .i64 c.id, .int .i64 c.gx, .int .i64 c.gy, .int .i64 c.b.t, .slice a n cap, .int .i64 c.ack, .slice pa pn pc] 29 ∧ Below w.heap.size w X) ∧ Bk X V3.heap.size #[.int .i64 1073741824, .slice ba bn bc] 26 ∧ EntsAt X (.slice ba bn bc) (baseM 0 0)) ⟨⟨B1.alloc _, hb.alloc hs _⟩, Bk.made _ _ _, EntsAt.below hE3 ((Below.refl _ _).alloc (Nat.le_refl _) _)⟩ ?_
    clear B1 hb hs hE3
    rintro V4 ⟨⟨B1, hb⟩, B7, hE⟩
    have y0 := B7.cell (v := .int .i64 1073741824) 0 rfl
    have y1 := B7.cell (v := .slice ba bn bc) 1 rfl
    have yl := B7.lt
    have PP := P1.out V4 hb ba bn bc hE
    unfold Wv V2 Iv at PP
    have HPP := Lib.hid PP
    clear PP hE
    go_wp2_with fail
    refine HPP.out.mono ?_
    rintro e V5 ⟨ca, cn, cc, rfl, -, hb5⟩
    replace B1 := B1.below hb5
    obtain ⟨hb, hs⟩ := below_cc hb5 hb
    clear hb5 HPP y0 y1 yl B7 P1
    go_upto_region 5 with fail
    refine wp_name (fun X => Bk X w.heap.size #[.int .i64 c.id, .int .i64 c.gx, .int .i64 c.gy, .int .i64 c.b.t, .slice a n cap, .int .i64 c.ack, .slice pa pn pc] 29 ∧ Below w.heap.size w X) ⟨B1.alloc _, hb.alloc hs _⟩ ?_
    clear B1 hb hs
    rintro V6 ⟨B1, hb⟩
    have hs := hb.size
    have s0 := B1.cell (v := .int .i64 c.id) 0 rfl
    have s1 := B1.cell (v := .int .i64 c.gx) 1 rfl
    have s2 := B1.cell (v := .int .i64 c.gy) 2 rfl
    have s3 := B1.cell (v := .int .i64 c.b.t) 3 rfl
    have s4 := B1.cell (v := .slice a n cap) 4 rfl
    have s5 := B1.cell (v := .int .i64 c.ack) 5 rfl
    have s6 := B1.cell (v := .slice pa pn pc) 6 rfl
    have sl := B1.lt
    go_upto_region 8 with fail
    clear s0 s1 s2 s3 s4 s5 s6 sl
    have s0 := B1.cell (v := .int .i64 c.id) 0 rfl
    have s1 := B1.cell (v := .int .i64 c.gx) 1 rfl
    have s2 := B1.cell (v := .int .i64 c.gy) 2 rfl
    have s3 := B1.cell (v := .int .i64 c.b.t) 3 rfl
    have s4 := B1.cell (v := .slice a n cap) 4 rfl
    have s5 := B1.cell (v := .int .i64 c.ack) 5 rfl
    have s6 := B1.cell (v := .slice pa pn pc) 6 rfl
    have sl := B1.lt
    have PK := PU.out V6 hb ⟨o8 + 1, 1099511627776, 0, 0, 0, false, 0, 0, 0, 0⟩ (.inl HNE.out)
    unfold Cv ccs Iv at PK
    simp only at PK
    have HPK := Lib.hid PK
    clear PK
    go_wp2_with fail
    refine HPK.out.mono ?_
    rintro e V8b hce
    obtain ⟨a1, n1, c1, pa1, pn1, pc1, rfl, hb2⟩ := ce_z hce
    replace B1 := B1.below hb2
    obtain ⟨hb, hs⟩ := below_cc hb2 hb
    clear hce hb2 HPK s0 s1 s2 s3 s4 s5 s6 sl
    go_upto_region 9 with fail
    refine wp_name (fun X => Bk X w.heap.size #[.int .i64 c.id, .int .i64 c.gx, .int .i64 c.gy, .int .i64 c.b.t, .slice a n cap, .int .i64 c.ack, .slice pa pn pc] 29 ∧ Below w.heap.size w X) ⟨B1.alloc _, hb.alloc hs _⟩ ?_
    clear B1 hb hs
    rintro V9 ⟨B1, hb⟩
    have hs := hb.size
    have s0 := B1.cell (v := .int .i64 c.id) 0 rfl
    have s1 := B1.cell (v := .int .i64 c.gx) 1 rfl
    have s2 := B1.cell (v := .int .i64 c.gy) 2 rfl
    have s3 := B1.cell (v := .int .i64 c.b.t) 3 rfl
    have s4 := B1.cell (v := .slice a n cap) 4 rfl
    have s5 := B1.cell (v := .int .i64 c.ack) 5 rfl
    have s6 := B1.cell (v := .slice pa pn pc) 6 rfl
    have sl := B1.lt
    have PK := PU.out V9 hb ⟨c.id, min mm c.ack, 0, 0, 0, false, 0, 0, 0, 0⟩ (.inr (Int.min_le_right _ _))
    unfold Cv ccs Iv at PK
    simp only at PK
    have HPK := Lib.hid PK
    clear PK
    go_wp2_with (first | refine wpList_min2 _ rfl _ _ _ rfl _ _ _ rfl rfl ?_ | refine wpList_max2 _ rfl _ _ _ rfl _ _ _ rfl rfl ?_)
    refine HPK.out.mono ?_
    rintro e V9b hce
    obtain ⟨a1, n1, c1, pa1, pn1, pc1, rfl, hb2⟩ := ce_z hce
    replace B1 := B1.below hb2
    obtain ⟨hb, hs⟩ := below_cc hb2 hb
    clear hce hb2 HPK s0 s1 s2 s3 s4 s5 s6 sl
    go_upto_region 10 with fail
    refine wp_name (fun X => Bk X w.heap.size #[.int .i64 c.id, .int .i64 c.gx, .int .i64 c.gy, .int .i64 c.b.t, .slice a n cap, .int .i64 c.ack, .slice pa pn pc] 29 ∧ Below w.heap.size w X) ⟨B1.alloc _, hb.alloc hs _⟩ ?_
    clear B1 hb hs
    rintro V10 ⟨B1, hb⟩
    have hs := hb.size
    have s0 := B1.cell (v := .int .i64 c.id) 0 rfl
    have s1 := B1.cell (v := .int .i64 c.gx) 1 rfl
    have s2 := B1.cell (v := .int .i64 c.gy) 2 rfl
    have s3 := B1.cell (v := .int .i64 c.b.t) 3 rfl
    have s4 := B1.cell (v := .slice a n cap) 4 rfl
    have s5 := B1.cell (v := .int .i64 c.ack) 5 rfl
    have s6 := B1.cell (v := .slice pa pn pc) 6 rfl
    have sl := B1.lt
    have PK := OB.out V10 hb (min mm 0) (numB_lo mm)
    unfold Wv at PK
    have HPK := Lib.hid PK
    clear PK
    go_wp2_with (first | refine wpList_min2 _ rfl _ _ _ rfl _ _ _ rfl rfl ?_ | refine wpList_max2 _ rfl _ _ _ rfl _ _ _ rfl rfl ?_)
    refine HPK.out.mono ?_
    rintro e V10b ⟨rfl, hb2⟩
    replace B1 := B1.below hb2
    obtain ⟨hb, hs⟩ := below_cc hb2 hb
    clear hb2 HPK s0 s1 s2 s3 s4 s5 s6 sl
    go_upto_region 11 with fail
    refine wp_name (fun X => Bk X w.heap.size #[.int .i64 c.id, .int .i64 c.gx, .int .i64 c.gy, .int .i64 c.b.t, .slice a n cap, .int .i64 c.ack, .slice pa pn pc] 29 ∧ Below w.heap.size w X) ⟨B1, hb⟩ ?_
    clear B1 hb hs
    rintro V11 ⟨B1, hb⟩
    have hs := hb.size
    have s0 := B1.cell (v := .int .i64 c.id) 0 rfl
    have s1 := B1.cell (v := .int .i64 c.gx) 1 rfl
    have s2 := B1.cell (v := .int .i64 c.gy) 2 rfl
    have s3 := B1.cell (v := .int .i64 c.b.t) 3 rfl
    have s4 := B1.cell (v := .slice a n cap) 4 rfl
    have s5 := B1.cell (v := .int .i64 c.ack) 5 rfl
    have s6 := B1.cell (v := .slice pa pn pc) 6 rfl
    have sl := B1.lt
    have PK := OB.out V11 hb (max mm 9) (numB_hi mm)
    unfold Wv at PK
    have HPK := Lib.hid PK
    clear PK
    go_wp2_with (first | refine wpList_min2 _ rfl _ _ _ rfl _ _ _ rfl rfl ?_ | refine wpList_max2 _ rfl _ _ _ rfl _ _ _ rfl rfl ?_)
    refine HPK.out.mono ?_
    rintro e V11b ⟨rfl, hb2⟩
    replace B1 := B1.below hb2
    obtain ⟨hb, hs⟩ := below_cc hb2 hb
    clear hb2 HPK s0 s1 s2 s3 s4 s5 s6 sl
    go_upto_region 12 with fail
    refine wp_name (fun X => Bk X w.heap.size #[.int .i64 c.id, .int .i64 c.gx, .int .i64 c.gy, .int .i64 c.b.t, .slice a n cap, .int .i64 c.ack, .slice pa pn pc] 29 ∧ Below w.heap.size w X) ⟨B1, hb⟩ ?_
    clear B1 hb hs
    rintro V12 ⟨B1, hb⟩
    have hs := hb.size
    have s0 := B1.cell (v := .int .i64 c.id) 0 rfl
    have s1 := B1.cell (v := .int .i64 c.gx) 1 rfl
    have s2 := B1.cell (v := .int .i64 c.gy) 2 rfl
    have s3 := B1.cell (v := .int .i64 c.b.t) 3 rfl
    have s4 := B1.cell (v := .slice a n cap) 4 rfl
    have s5 := B1.cell (v := .int .i64 c.ack) 5 rfl
    have s6 := B1.cell (v := .slice pa pn pc) 6 rfl
    have sl := B1.lt
    have PK := PN.out V12 hb c.id 0 (max mm 4097) (.inr (pullB_hi 0 mm))
    unfold Wv V2 Iv at PK
    have HPK := Lib.hid PK
    clear PK
    go_wp2_with (first | refine wpList_min2 _ rfl _ _ _ rfl _ _ _ rfl rfl ?_ | refine wpList_max2 _ rfl _ _ _ rfl _ _ _ rfl rfl ?_)
    refine HPK.out.mono ?_
    rintro e V12b ⟨a1, n1, c1, rfl, -, hb2⟩
    replace B1 := B1.below hb2
    obtain ⟨hb, hs⟩ := below_cc hb2 hb
    clear hb2 HPK s0 s1 s2 s3 s4 s5 s6 sl
    unfold Wv
    try simp only
    go_upto_region 13 with fail
    refine wp_name (fun X => Bk X w.heap.size #[.int .i64 c.id, .int .i64 c.gx, .int .i64 c.gy, .int .i64 c.b.t, .slice a n cap, .int .i64 c.ack, .slice pa pn pc] 29 ∧ Below w.heap.size w X) ⟨B1.alloc _, hb.alloc hs _⟩ ?_
    clear B1 hb hs
    rintro V13 ⟨B1, hb⟩
    have hs := hb.size
    have s0 := B1.cell (v := .int .i64 c.id) 0 rfl
    have s1 := B1.cell (v := .int .i64 c.gx) 1 rfl
    have s2 := B1.cell (v := .int .i64 c.gy) 2 rfl
    have s3 := B1.cell (v := .int .i64 c.b.t) 3 rfl
    have s4 := B1.cell (v := .slice a n cap) 4 rfl
    have s5 := B1.cell (v := .int .i64 c.ack) 5 rfl
    have s6 := B1.cell (v := .slice pa pn pc) 6 rfl
    have sl := B1.lt
    have PK := PN.out V13 hb (max mm 9) 0 0 (.inl (numB_hi mm))
    unfold Wv V2 Iv at PK
    have HPK := Lib.hid PK
    clear PK
    go_wp2_with (first | refine wpList_min2 _ rfl _ _ _ rfl _ _ _ rfl rfl ?_ | refine wpList_max2 _ rfl _ _ _ rfl _ _ _ rfl rfl ?_)
    refine HPK.out.mono ?_
    rintro e V13b ⟨a1, n1, c1, rfl, -, hb2⟩
    replace B1 := B1.below hb2
    obtain ⟨hb, hs⟩ := below_cc hb2 hb
    clear hb2 HPK s0 s1 s2 s3 s4 s5 s6 sl
    unfold Wv
    try simp only
    go_upto_region 14 with fail
    refine wp_name (fun X => Bk X w.heap.size #[.int .i64 c.id, .int .i64 c.gx, .int .i64 c.gy, .int .i64 c.b.t, .slice a n cap, .int .i64 c.ack, .slice pa pn pc] 29 ∧ Below w.heap.size w X) ⟨B1.alloc _, hb.alloc hs _⟩ ?_
    clear B1 hb hs
    rintro V14 ⟨B1, hb⟩
    have hs := hb.size
    clear PN OB PU
    go_wp2
    go_loopw [122] (fun v122 wr => ∃ i : Nat, (i ≤ 6 ∧ v122 = .int .i64 i) ∧ (Bk wr w.heap.size #[.int .i64 c.id, .int .i64 c.gx, .int .i64 c.gy, .int .i64 c.b.t, .slice a n cap, .int .i64 c.ack, .slice pa pn pc] 29 ∧ Below w.heap.size w wr) ∧ Bk wr V14.heap.size #[.int .i64 2, .int .i64 2, .int .i64 2, .int .i64 2, .int .i64 2, .int .i64 2] 32) (fun v122 _ => 6 - (intOf v122).toNat)
    case atStart => exact ⟨0, ⟨by omega, rfl⟩, ⟨B1.alloc _, hb.alloc hs _⟩, Bk.made _ _ _⟩
    case round =>
      clear B1 hb hs
      obtain ⟨i, ⟨hi, rfl⟩, ⟨B1, hb⟩, B20⟩ := hrel
      by_cases hlt : i < 6
      · have xi : wr.cell? ⟨V14.heap.size, i, none⟩ = some (.int .i64 2) := B20.cell i (by
          have : i = 0 ∨ i = 1 ∨ i = 2 ∨ i = 3 ∨ i = 4 ∨ i = 5 := by omega
          rcases this with rfl | rfl | rfl | rfl | rfl | rfl <;> rfl)
        have HB := Lib.hid (And.intro B1 (And.intro hb B20))
        clear B1 hb B20
        go_wp2
        go_roundw
        case rel => exact ⟨i + 1, ⟨by omega, by go_num⟩, ⟨HB.out.1, HB.out.2.1⟩, HB.out.2.2⟩
        case measure => simp [intOf]; omega
      · obtain rfl : i = 6 := by omega
        clear B20
        have s0 := B1.cell (v := .int .i64 c.id) 0 rfl
        have s1 := B1.cell (v := .int .i64 c.gx) 1 rfl
        have s2 := B1.cell (v := .int .i64 c.gy) 2 rfl
        have s3 := B1.cell (v := .int .i64 c.b.t) 3 rfl
        have s4 := B1.cell (v := .slice a n cap) 4 rfl
        have s5 := B1.cell (v := .int .i64 c.ack) 5 rfl
        have s6 := B1.cell (v := .slice pa pn pc) 6 rfl
        have sl := B1.lt
        go_upto_region 21 with fail
        have hs := hb.size
        refine wp_name (fun X => (Bk X w.heap.size #[.int .i64 c.id, .int .i64 c.gx, .int .i64 c.gy, .int .i64 c.b.t, .slice a n cap, .int .i64 c.ack, .slice pa pn pc] 29 ∧ Below w.heap.size w X) ∧ Bk X wr.heap.size #[.int .i64 c.id, .int .i64 c.gx, .int .i64 c.gy, .int .i64 c.b.t, .slice a n cap, .int .i64 c.ack, .slice pa pn pc] 29) ⟨⟨B1.alloc _, hb.alloc hs _⟩, Bk.made _ _ _⟩ ?_
        obtain ⟨g25, hg25⟩ : ∃ g, wr.heap.size = g := ⟨_, rfl⟩
        have l1 := B1.lt
        rw [hg25] at hs l1 ⊢
        have n1 : w.heap.size ≠ g25 := Nat.ne_of_lt l1
        have hg25w := hs
        clear hg25 B1 hb hs l1 s0 s1 s2 s3 s4 s5 s6 sl
        rintro V20 ⟨⟨B1, hb⟩, B25⟩
        have hs := hb.size
        have s0 := B1.cell (v := .int .i64 c.id) 0 rfl
        have s1 := B1.cell (v := .int .i64 c.gx) 1 rfl
        have s2 := B1.cell (v := .int .i64 c.gy) 2 rfl
        have s3 := B1.cell (v := .int .i64 c.b.t) 3 rfl
        have s4 := B1.cell (v := .slice a n cap) 4 rfl
        have s5 := B1.cell (v := .int .i64 c.ack) 5 rfl
        have s6 := B1.cell (v := .slice pa pn pc) 6 rfl
        have sl := B1.lt
        have HB := Lib.hid (And.intro B1 (And.intro hb (And.intro B25 hs)))
        clear B1 hb B25 hs
        go_wp2_with (at_builtin; refine wpL_name (fun X => Bk X V20.heap.size #[] 37 ∧ Below V20.heap.size V20 X) ⟨Bk.made _ _ _, ((Below.refl _ _).alloc (Nat.le_refl _) _)⟩ ?_)
        rintro V21 ⟨BE, hb21⟩
        have hpn : pn ≤ 64 := by
          have := (validC_parts HV.out).2.2.2.2.1
          rw [← ListAt.len HCX.out.2.2.2.2.1] at this
          exact this
        have hb' := (below_cc hb21 HB.out.2.1).1
        refine wpList_append_inps _ rfl _ _ rfl w.heap.size (.slice (some ⟨V20.heap.size, 0, none⟩) 0 0) 0 [] rfl (ownsRow_full BE HB.out.2.2.2 rfl (by unfold maxLen; omega)) pa pn pc c.p rfl (InpsAt.below HCX.out.2.2.2.2.1 hb') (by omega) (Nat.le_trans HB.out.2.2.2 hb21.size) ?_
        intro v' w' hown hgr hat
        have hpl : pn = c.p.length := ListAt.len HCX.out.2.2.2.2.1
        have hRo : RowI w.heap.size w' v' c.p := by
          refine ⟨?_, by omega⟩
          have h1 := hown
          rw [Nat.zero_add, List.nil_append, hpl] at h1
          exact h1
        clear hown
        obtain ⟨qa, qc, rfl⟩ := hRo.form
        obtain ⟨qn, hqn⟩ : ∃ qn, c.p.length = qn := ⟨_, rfl⟩
        rw [hqn] at hRo ⊢
        have hqn64 : qn ≤ 64 := by omega
        have D25 : Bk w' g25 #[.int .i64 c.id, .int .i64 c.gx, .int .i64 c.gy, .int .i64 c.b.t, .slice a n cap, .int .i64 c.ack, .slice pa pn pc] 29 := (hgr.block _ (HB.out.2.2.1.below hb21).lt (fun q => by have := HB.out.2.2.1.lt; simp [Value.ownBlock] at q; omega)).trans (HB.out.2.2.1.below hb21)
        have D1 : Bk w' w.heap.size #[.int .i64 c.id, .int .i64 c.gx, .int .i64 c.gy, .int .i64 c.b.t, .slice a n cap, .int .i64 c.ack, .slice pa pn pc] 29 := (hgr.block _ (HB.out.1.below hb21).lt (fun q => by have := HB.out.1.lt; simp [Value.ownBlock] at q; omega)).trans (HB.out.1.below hb21)
        have hb7 : Below w.heap.size w w' := hb'.grown hgr (Nat.le_trans HB.out.2.2.2 hb21.size) (fun q e => by simp [Value.ownBlock] at e; have := HB.out.2.2.2; omega)
        have HX := Lib.hid (And.intro (And.intro (D1.far (p := ⟨g25, 6, none⟩) n1 (.slice qa qn qc)) (hb7.setCell (p := ⟨g25, 6, none⟩) hg25w (.slice qa qn qc))) (And.intro (D25.put 6 (.slice qa qn qc)) (hRo.set (p := ⟨g25, 6, none⟩) D25 (by decide) (.slice qa qn qc))))
        have e6 := D25.cell (v := .slice pa pn pc) 6 rfl
        have f6 := D25.free 6
        have lt6 := D25.lt
        clear HB hb' hgr hat hRo D25 D1 hb7 hb21 BE s0 s1 s2 s3 s4 s5 s6 sl
        go_upto_region 22 with fail
        refine wp_name (fun X => (Bk X w.heap.size #[.int .i64 c.id, .int .i64 c.gx, .int .i64 c.gy, .int .i64 c.b.t, .slice a n cap, .int .i64 c.ack, .slice pa pn pc] 29 ∧ Below w.heap.size w X) ∧ Bk X g25 #[.int .i64 c.id, .int .i64 c.gx, .int .i64 c.gy, .int .i64 c.b.t, .slice a n cap, .int .i64 c.ack, .slice qa qn qc] 29 ∧ RowI w.heap.size X (.slice qa qn qc) c.p) HX.out ?_
        clear HX e6 f6 lt6
        rintro V22 ⟨⟨B1, hb⟩, B25, hRo⟩
        have m9 : Int.tmod nn 8 = nn % 8 := Int.tmod_eq_emod_of_nonneg hn.1
        obtain ⟨wy, hwy⟩ : ∃ d, nn % 8 = d := ⟨_, rfl⟩
        have hwy2 : wy = 0 ∨ wy = 1 ∨ wy = 2 ∨ wy = 3 ∨ wy = 4 ∨ wy = 5 ∨ wy = 6 ∨ wy = 7 := by omega
        rw [hwy] at m9
        have hwu : IntKind.u8.wrap wy = wy := by simp [IntKind.wrap, IntKind.bits, IntKind.signed]; omega
        clear hwy
        have HQN := Lib.hid (And.intro hqn hqn64)
        clear hqn hqn64 hpl hpn
        go_upto_block 2 with fail
        go_cut [137] (fun s137 wx => ∃ (bid bgx bgy bt back : Int) (ra : Option Addr) (rn rc : Nat) (L : List Inp), validC ⟨bid, bgx, bgy, ⟨bt, c.b.es⟩, back, L⟩ = false ∧ Bk wx g25 #[.int .i64 bid, .int .i64 bgx, .int .i64 bgy, .int .i64 bt, .slice a n cap, .int .i64 back, .slice ra rn rc] 29 ∧ InpsAt wx (.slice ra rn rc) L ∧ I64s L ∧ Below w.heap.size w wx)
        case first =>
          rcases hwy2 with rfl | rfl | rfl | rfl | rfl | rfl | rfl | rfl
          · have q0 := B25.cell (v := .int .i64 c.id) 0 rfl
            have ql := B25.lt
            have qf := B25.free 0
            have HX := Lib.hid (And.intro (And.intro (B1.far (p := ⟨g25, 0, none⟩) n1 (.int .i64 (min mm 0))) (hb.setCell (p := ⟨g25, 0, none⟩) hg25w (.int .i64 (min mm 0)))) (And.intro (B25.put 0 (.int .i64 (min mm 0))) (hRo.set (p := ⟨g25, 0, none⟩) B25 (by decide) (.int .i64 (min mm 0)))))
            clear B1 hb B25 hRo
            go_wp2_with (first | refine wpList_min2 _ rfl _ _ _ rfl _ _ _ rfl rfl ?_ | refine wpList_max2 _ rfl _ _ _ rfl _ _ _ rfl rfl ?_)
            go_meet
            exact ⟨((min mm 0)), (c.gx), (c.gy), (c.b.t), (c.ack), qa, qn, qc, c.p, bad_0 mm, HX.out.2.1, HX.out.2.2.inps, HCX.out.2.2.2.2.2, HX.out.1.2⟩
          · have q0 := B25.cell (v := .int .i64 c.id) 0 rfl
            have ql := B25.lt
            have qf := B25.free 0
            have HX := Lib.hid (And.intro (And.intro (B1.far (p := ⟨g25, 0, none⟩) n1 (.int .i64 (max mm 9))) (hb.setCell (p := ⟨g25, 0, none⟩) hg25w (.int .i64 (max mm 9)))) (And.intro (B25.put 0 (.int .i64 (max mm 9))) (hRo.set (p := ⟨g25, 0, none⟩) B25 (by decide) (.int .i64 (max mm 9)))))
            clear B1 hb B25 hRo
            go_wp2_with (first | refine wpList_min2 _ rfl _ _ _ rfl _ _ _ rfl rfl ?_ | refine wpList_max2 _ rfl _ _ _ rfl _ _ _ rfl rfl ?_)
            go_meet
            exact ⟨((max mm 9)), (c.gx), (c.gy), (c.b.t), (c.ack), qa, qn, qc, c.p, bad_1 mm, HX.out.2.1, HX.out.2.2.inps, HCX.out.2.2.2.2.2, HX.out.1.2⟩
          · have q1 := B25.cell (v := .int .i64 c.gx) 1 rfl
            have ql := B25.lt
            have qf := B25.free 1
            have HX := Lib.hid (And.intro (And.intro (B1.far (p := ⟨g25, 1, none⟩) n1 (.int .i64 (min mm (-4097)))) (hb.setCell (p := ⟨g25, 1, none⟩) hg25w (.int .i64 (min mm (-4097))))) (And.intro (B25.put 1 (.int .i64 (min mm (-4097)))) (hRo.set (p := ⟨g25, 1, none⟩) B25 (by decide) (.int .i64 (min mm (-4097))))))
            clear B1 hb B25 hRo
            go_wp2_with (first | refine wpList_min2 _ rfl _ _ _ rfl _ _ _ rfl rfl ?_ | refine wpList_max2 _ rfl _ _ _ rfl _ _ _ rfl rfl ?_)
            go_meet
            exact ⟨(c.id), ((min mm (-4097))), (c.gy), (c.b.t), (c.ack), qa, qn, qc, c.p, bad_2 mm, HX.out.2.1, HX.out.2.2.inps, HCX.out.2.2.2.2.2, HX.out.1.2⟩
          · have q3 := B25.cell (v := .int .i64 c.b.t) 3 rfl
            have ql := B25.lt
            have qf := B25.free 3
            have HX := Lib.hid (And.intro (And.intro (B1.far (p := ⟨g25, 3, none⟩) n1 (.int .i64 (min mm (-1)))) (hb.setCell (p := ⟨g25, 3, none⟩) hg25w (.int .i64 (min mm (-1))))) (And.intro (B25.put 3 (.int .i64 (min mm (-1)))) (hRo.set (p := ⟨g25, 3, none⟩) B25 (by decide) (.int .i64 (min mm (-1))))))
            clear B1 hb B25 hRo
            go_wp2_with (first | refine wpList_min2 _ rfl _ _ _ rfl _ _ _ rfl rfl ?_ | refine wpList_max2 _ rfl _ _ _ rfl _ _ _ rfl rfl ?_)
            go_meet
            exact ⟨(c.id), (c.gx), (c.gy), ((min mm (-1))), (c.ack), qa, qn, qc, c.p, bad_3 mm, HX.out.2.1, HX.out.2.2.inps, HCX.out.2.2.2.2.2, HX.out.1.2⟩
          · have q5 := B25.cell (v := .int .i64 c.ack) 5 rfl
            have ql := B25.lt
            have qf := B25.free 5
            have HX := Lib.hid (And.intro (And.intro (B1.far (p := ⟨g25, 5, none⟩) n1 (.int .i64 (min mm (-1)))) (hb.setCell (p := ⟨g25, 5, none⟩) hg25w (.int .i64 (min mm (-1))))) (And.intro (B25.put 5 (.int .i64 (min mm (-1)))) (hRo.set (p := ⟨g25, 5, none⟩) B25 (by decide) (.int .i64 (min mm (-1))))))
            clear B1 hb B25 hRo
            go_wp2_with (first | refine wpList_min2 _ rfl _ _ _ rfl _ _ _ rfl rfl ?_ | refine wpList_max2 _ rfl _ _ _ rfl _ _ _ rfl rfl ?_)
            go_meet
            exact ⟨(c.id), (c.gx), (c.gy), (c.b.t), ((min mm (-1))), qa, qn, qc, c.p, bad_4 mm, HX.out.2.1, HX.out.2.2.inps, HCX.out.2.2.2.2.2, HX.out.1.2⟩
          · obtain ⟨s1, hs1⟩ : ∃ s, IntKind.i64.wrap (c.ack + 1) = s := ⟨_, rfl⟩
            have q6 := B25.cell (v := .slice qa qn qc) 6 rfl
            have ql := B25.lt
            have s0 := B1.cell (v := .int .i64 c.id) 0 rfl
            have s5 := B1.cell (v := .int .i64 c.ack) 5 rfl
            have sl := B1.lt
            have hs := hb.size
            have HB := Lib.hid (And.intro B1 (And.intro hb (And.intro B25 hRo)))
            clear B1 hb B25 hRo
            go_wp2_with (at_builtin; refine wpL_name (fun X => Bk X V22.heap.size #[.int .i64 (o8 + 1), .int .i64 s1, .int .i64 0, .int .i64 0, .int .i64 0, .bool false, .int .i64 0, .int .i64 0, .int .i64 0, .int .i64 0] 37 ∧ Below V22.heap.size V22 X) ⟨Bk.made _ _ _, ((Below.refl _ _).alloc (Nat.le_refl _) _)⟩ ?_)
            rintro V23 ⟨BE, hb23⟩
            have hRo := HB.out.2.2.2.below hb23
            have hq64 := HQN.out.2
            refine wpList_append_inps _ rfl _ _ rfl w.heap.size (.slice (some ⟨V22.heap.size, 0, none⟩) 1 1) 1 (ivs [(⟨o8 + 1, s1, 0, 0, 0, false, 0, 0, 0, 0⟩ : Inp)]) rfl (ownsRow_full BE hs rfl (by unfold maxLen; omega)) qa qn qc c.p rfl hRo.inps (by omega) (Nat.le_trans hs hb23.size) ?_
            intro v' w' hown hgr hat
            have hL : ([(⟨o8 + 1, s1, 0, 0, 0, false, 0, 0, 0, 0⟩ : Inp)] ++ c.p).length = 1 + qn := by rw [List.length_append, HQN.out.1]; rfl
            have hR2 : RowI w.heap.size w' v' ([(⟨o8 + 1, s1, 0, 0, 0, false, 0, 0, 0, 0⟩ : Inp)] ++ c.p) := ⟨by rw [hL]; exact hown, by rw [hL]; omega⟩
            clear hown
            obtain ⟨ra, rc, rfl⟩ := hR2.form
            obtain ⟨rn, hrn⟩ : ∃ rn, ([(⟨o8 + 1, s1, 0, 0, 0, false, 0, 0, 0, 0⟩ : Inp)] ++ c.p).length = rn := ⟨_, rfl⟩
            rw [hrn] at hR2 ⊢
            have D25 : Bk w' g25 #[.int .i64 c.id, .int .i64 c.gx, .int .i64 c.gy, .int .i64 c.b.t, .slice a n cap, .int .i64 c.ack, .slice qa qn qc] 29 := (hgr.block _ (HB.out.2.2.1.below hb23).lt (fun q => by have := HB.out.2.2.1.lt; simp [Value.ownBlock] at q; omega)).trans (HB.out.2.2.1.below hb23)
            have hb7 : Below w.heap.size w w' := (below_cc hb23 HB.out.2.1).1.grown hgr (Nat.le_trans hs hb23.size) (fun q e => by simp [Value.ownBlock] at e; omega)
            have HX := Lib.hid (And.intro (hb7.setCell (p := ⟨g25, 6, none⟩) hg25w (.slice ra rn rc)) (And.intro (D25.put 6 (.slice ra rn rc)) (hR2.set (p := ⟨g25, 6, none⟩) D25 (by decide) (.slice ra rn rc))))
            have e6 := D25.cell (v := .slice qa qn qc) 6 rfl
            have f6 := D25.free 6
            have lt6 := D25.lt
            clear HB hgr hat hRo D25 hb7 hb23 BE hR2 hL hrn q6 ql s0 s5 sl
            have hxs : I64s ([(⟨o8 + 1, s1, 0, 0, 0, false, 0, 0, 0, 0⟩ : Inp)] ++ c.p) := fun y hy => by
              have hz : I64 (0 : Int) := ⟨by decide, by decide⟩
              rcases List.mem_append.1 hy with h1 | h1
              · simp at h1; subst h1; exact ⟨hz, hz⟩
              · exact HCX.out.2.2.2.2.2 y h1
            have HXS := Lib.hid hxs
            clear hxs
            go_wp2
            go_meet
            exact ⟨c.id, c.gx, c.gy, c.b.t, c.ack, ra, rn, rc, [(⟨o8 + 1, s1, 0, 0, 0, false, 0, 0, 0, 0⟩ : Inp)] ++ c.p, bad_5 HNE.out, HX.out.2.1, HX.out.2.2.inps, HXS.out, HX.out.1⟩
          · have q6 := B25.cell (v := .slice qa qn qc) 6 rfl
            have ql := B25.lt
            have s0 := B1.cell (v := .int .i64 c.id) 0 rfl
            have s5 := B1.cell (v := .int .i64 c.ack) 5 rfl
            have sl := B1.lt
            have hs := hb.size
            have HB := Lib.hid (And.intro B1 (And.intro hb (And.intro B25 hRo)))
            clear B1 hb B25 hRo
            go_wp2_with (at_builtin; refine wpL_name (fun X => Bk X V22.heap.size #[.int .i64 c.id, .int .i64 c.ack, .int .i64 0, .int .i64 0, .int .i64 0, .bool false, .int .i64 0, .int .i64 0, .int .i64 0, .int .i64 0] 37 ∧ Below V22.heap.size V22 X) ⟨Bk.made _ _ _, ((Below.refl _ _).alloc (Nat.le_refl _) _)⟩ ?_)
            rintro V23 ⟨BE, hb23⟩
            have hRo := HB.out.2.2.2.below hb23
            have hq64 := HQN.out.2
            refine wpList_append_inps _ rfl _ _ rfl w.heap.size (.slice (some ⟨V22.heap.size, 0, none⟩) 1 1) 1 (ivs [(⟨c.id, c.ack, 0, 0, 0, false, 0, 0, 0, 0⟩ : Inp)]) rfl (ownsRow_full BE hs rfl (by unfold maxLen; omega)) qa qn qc c.p rfl hRo.inps (by omega) (Nat.le_trans hs hb23.size) ?_
            intro v' w' hown hgr hat
            have hL : ([(⟨c.id, c.ack, 0, 0, 0, false, 0, 0, 0, 0⟩ : Inp)] ++ c.p).length = 1 + qn := by rw [List.length_append, HQN.out.1]; rfl
            have hR2 : RowI w.heap.size w' v' ([(⟨c.id, c.ack, 0, 0, 0, false, 0, 0, 0, 0⟩ : Inp)] ++ c.p) := ⟨by rw [hL]; exact hown, by rw [hL]; omega⟩
            clear hown
            obtain ⟨ra, rc, rfl⟩ := hR2.form
            obtain ⟨rn, hrn⟩ : ∃ rn, ([(⟨c.id, c.ack, 0, 0, 0, false, 0, 0, 0, 0⟩ : Inp)] ++ c.p).length = rn := ⟨_, rfl⟩
            rw [hrn] at hR2 ⊢
            have D25 : Bk w' g25 #[.int .i64 c.id, .int .i64 c.gx, .int .i64 c.gy, .int .i64 c.b.t, .slice a n cap, .int .i64 c.ack, .slice qa qn qc] 29 := (hgr.block _ (HB.out.2.2.1.below hb23).lt (fun q => by have := HB.out.2.2.1.lt; simp [Value.ownBlock] at q; omega)).trans (HB.out.2.2.1.below hb23)
            have hb7 : Below w.heap.size w w' := (below_cc hb23 HB.out.2.1).1.grown hgr (Nat.le_trans hs hb23.size) (fun q e => by simp [Value.ownBlock] at e; omega)
            have HX := Lib.hid (And.intro (hb7.setCell (p := ⟨g25, 6, none⟩) hg25w (.slice ra rn rc)) (And.intro (D25.put 6 (.slice ra rn rc)) (hR2.set (p := ⟨g25, 6, none⟩) D25 (by decide) (.slice ra rn rc))))
            have e6 := D25.cell (v := .slice qa qn qc) 6 rfl
            have f6 := D25.free 6
            have lt6 := D25.lt
            clear HB hgr hat hRo D25 hb7 hb23 BE hR2 hL hrn q6 ql s0 s5 sl
            have hxs : I64s ([(⟨c.id, c.ack, 0, 0, 0, false, 0, 0, 0, 0⟩ : Inp)] ++ c.p) := fun y hy => by
              have hz : I64 (0 : Int) := ⟨by decide, by decide⟩
              rcases List.mem_append.1 hy with h1 | h1
              · simp at h1; subst h1; exact ⟨hz, hz⟩
              · exact HCX.out.2.2.2.2.2 y h1
            have HXS := Lib.hid hxs
            clear hxs
            go_wp2
            go_meet
            exact ⟨c.id, c.gx, c.gy, c.b.t, c.ack, ra, rn, rc, [(⟨c.id, c.ack, 0, 0, 0, false, 0, 0, 0, 0⟩ : Inp)] ++ c.p, bad_6, HX.out.2.1, HX.out.2.2.inps, HXS.out, HX.out.1⟩
          · obtain ⟨s1, hs1⟩ : ∃ s, IntKind.i64.wrap (c.ack + 100) = s := ⟨_, rfl⟩
            have q6 := B25.cell (v := .slice qa qn qc) 6 rfl
            have ql := B25.lt
            have s0 := B1.cell (v := .int .i64 c.id) 0 rfl
            have s5 := B1.cell (v := .int .i64 c.ack) 5 rfl
            have sl := B1.lt
            have hs := hb.size
            have HB := Lib.hid (And.intro B1 (And.intro hb (And.intro B25 hRo)))
            clear B1 hb B25 hRo
            go_wp2_with (at_builtin; refine wpL_name (fun X => Bk X V22.heap.size #[.int .i64 c.id, .int .i64 s1, .int .i64 0, .int .i64 0, .int .i64 0, .bool false, .int .i64 0, .int .i64 0, .int .i64 0, .int .i64 0, .int .i64 c.id, .int .i64 s1, .int .i64 0, .int .i64 0, .int .i64 0, .bool false, .int .i64 0, .int .i64 0, .int .i64 0, .int .i64 0] 37 ∧ Below V22.heap.size V22 X) ⟨Bk.made _ _ _, ((Below.refl _ _).alloc (Nat.le_refl _) _)⟩ ?_)
            rintro V23 ⟨BE, hb23⟩
            have hRo := HB.out.2.2.2.below hb23
            have hq64 := HQN.out.2
            have hR3 : RowI w.heap.size V23 (.slice (some ⟨V22.heap.size, 0, none⟩) 2 2) [(⟨c.id, s1, 0, 0, 0, false, 0, 0, 0, 0⟩ : Inp), (⟨c.id, s1, 0, 0, 0, false, 0, 0, 0, 0⟩ : Inp)] := ⟨ownsRow_full BE hs rfl (by unfold maxLen; omega), by simp⟩
            refine wpList_append_inps _ rfl _ _ rfl w.heap.size (.slice qa qn qc) qn (ivs c.p) rfl (by have := hRo.1; rw [HQN.out.1] at this; exact this) (some ⟨V22.heap.size, 0, none⟩) 2 2 [(⟨c.id, s1, 0, 0, 0, false, 0, 0, 0, 0⟩ : Inp), (⟨c.id, s1, 0, 0, 0, false, 0, 0, 0, 0⟩ : Inp)] rfl hR3.inps (by omega) (Nat.le_trans hs hb23.size) ?_
            intro v' w' hown hgr hat
            have hL : (c.p ++ [(⟨c.id, s1, 0, 0, 0, false, 0, 0, 0, 0⟩ : Inp), (⟨c.id, s1, 0, 0, 0, false, 0, 0, 0, 0⟩ : Inp)]).length = qn + 2 := by rw [List.length_append, HQN.out.1]; rfl
            have hR2 : RowI w.heap.size w' v' (c.p ++ [(⟨c.id, s1, 0, 0, 0, false, 0, 0, 0, 0⟩ : Inp), (⟨c.id, s1, 0, 0, 0, false, 0, 0, 0, 0⟩ : Inp)]) := ⟨by rw [hL]; unfold ivs at hown ⊢; rw [List.flatMap_append]; exact hown, by rw [hL]; omega⟩
            clear hown
            obtain ⟨ra, rc, rfl⟩ := hR2.form
            obtain ⟨rn, hrn⟩ : ∃ rn, (c.p ++ [(⟨c.id, s1, 0, 0, 0, false, 0, 0, 0, 0⟩ : Inp), (⟨c.id, s1, 0, 0, 0, false, 0, 0, 0, 0⟩ : Inp)]).length = rn := ⟨_, rfl⟩
            rw [hrn] at hR2 ⊢
            have D25 : Bk w' g25 #[.int .i64 c.id, .int .i64 c.gx, .int .i64 c.gy, .int .i64 c.b.t, .slice a n cap, .int .i64 c.ack, .slice qa qn qc] 29 := (hgr.block _ (HB.out.2.2.1.below hb23).lt (bk_ne_row (HB.out.2.2.1.below hb23) (by decide) hRo.1)).trans (HB.out.2.2.1.below hb23)
            have hb7 : Below w.heap.size w w' := (below_cc hb23 HB.out.2.1).1.grown hgr (Nat.le_trans hs hb23.size) (fun q e => (hRo.1.lt q e).1)
            have HX := Lib.hid (And.intro (hb7.setCell (p := ⟨g25, 6, none⟩) hg25w (.slice ra rn rc)) (And.intro (D25.put 6 (.slice ra rn rc)) (hR2.set (p := ⟨g25, 6, none⟩) D25 (by decide) (.slice ra rn rc))))
            have e6 := D25.cell (v := .slice qa qn qc) 6 rfl
            have f6 := D25.free 6
            have lt6 := D25.lt
            clear hR3 HB hgr hat hRo D25 hb7 hb23 BE hR2 hL hrn q6 ql s0 s5 sl
            have hxs : I64s (c.p ++ [(⟨c.id, s1, 0, 0, 0, false, 0, 0, 0, 0⟩ : Inp), (⟨c.id, s1, 0, 0, 0, false, 0, 0, 0, 0⟩ : Inp)]) := fun y hy => by
              have hz : I64 (0 : Int) := ⟨by decide, by decide⟩
              rcases List.mem_append.1 hy with h1 | h1
              · exact HCX.out.2.2.2.2.2 y h1
              · simp at h1; subst h1; exact ⟨hz, hz⟩
            have HXS := Lib.hid hxs
            clear hxs
            go_wp2
            go_meet
            exact ⟨c.id, c.gx, c.gy, c.b.t, c.ack, ra, rn, rc, c.p ++ [(⟨c.id, s1, 0, 0, 0, false, 0, 0, 0, 0⟩ : Inp), (⟨c.id, s1, 0, 0, 0, false, 0, 0, 0, 0⟩ : Inp)], bad_7, HX.out.2.1, HX.out.2.2.inps, HXS.out, HX.out.1⟩
        case rest =>
          clear B1 hb B25 hRo hwy2 m9 hwu
          obtain ⟨bid, bgx, bgy, bt, back, ra, rn, rc, L, hbad, B25, hI, hxs, hb⟩ := hcut
          have T1 : ∀ X, Below wc.heap.size wc X → RG X := fun X hX => HCX.out.1.below (below_cc hX hb).1
          have T2 : ∀ X, Below wc.heap.size wc X → EntsAt X (.slice a n cap) c.b.es := fun X hX => EntsAt.below HCX.out.2.2.2.1 (below_cc hX hb).1
          have T3 : ∀ X, Below wc.heap.size wc X → InpsAt X (.slice ra rn rc) L := fun X hX => InpsAt.below hI hX
          have T4 : ∀ X, Below wc.heap.size wc X → RM X := fun X hX => HCX.out.2.1.low (below_cc hX hb).1 HCX.out.2.2.1
          have T5 : ∀ X, Below wc.heap.size wc X → 2 ≤ X.heap.size := fun X hX => Nat.le_trans (Nat.le_trans HCX.out.2.2.1 hb.size) hX.size
          have VB := Lib.hid (fun X (hX : Below wc.heap.size wc X)  => bad_view ⟨bid, bgx, bgy, ⟨bt, c.b.es⟩, back, L⟩ a n cap ra rn rc X (T1 X hX) (T4 X hX) (T5 X hX) (T2 X hX) (T3 X hX) hxs hbad)
          have RB := Lib.hid (fun X (hX : Below wc.heap.size wc X) b4 n4 c4 (hB : EntsAt X (.slice b4 n4 c4) (baseM 0 0)) => bad_recv ⟨bid, bgx, bgy, ⟨bt, c.b.es⟩, back, L⟩ ⟨1073741824, baseM 0 0⟩ 4611686018427387904 a n cap ra rn rc b4 n4 c4 X (T1 X hX) (T2 X hX) (T3 X hX) hB hbad)
          have PB := Lib.hid (fun X (hX : Below wc.heap.size wc X)  => bad_push ⟨bid, bgx, bgy, ⟨bt, c.b.es⟩, back, L⟩ ⟨bid, 4611686018427387904, 0, 0, 0, false, 0, 0, 0, 0⟩ a n cap ra rn rc X (T1 X hX) (T2 X hX) (T3 X hX) hbad)
          have SB := Lib.hid (fun X (hX : Below wc.heap.size wc X) b4 n4 c4 (hB : EntsAt X (.slice b4 n4 c4) (baseM 0 0)) => bad_shift ⟨bid, bgx, bgy, ⟨bt, c.b.es⟩, back, L⟩ ⟨1073741824, baseM 0 0⟩ 4611686018427387904 1 a n cap ra rn rc b4 n4 c4 X (T1 X hX) (T4 X hX) (T5 X hX) (T2 X hX) (T3 X hX) hB hxs hbad)
          have VCB := Lib.hid (fun X (hX : Below wc.heap.size wc X)  => bad_valid ⟨bid, bgx, bgy, ⟨bt, c.b.es⟩, back, L⟩ a n cap ra rn rc X (T1 X hX) (T2 X hX) (T3 X hX) hbad)
          clear T1 T2 T3 T4 T5
          unfold Cv ccs at VB PB VCB
          unfold Iv at PB
          simp only at VB PB VCB
          have HB39 := Lib.hid hb
          clear hbad hxs hb hI
          have s0 := B25.cell (v := .int .i64 bid) 0 rfl
          have s1 := B25.cell (v := .int .i64 bgx) 1 rfl
          have s2 := B25.cell (v := .int .i64 bgy) 2 rfl
          have s3 := B25.cell (v := .int .i64 bt) 3 rfl
          have s4 := B25.cell (v := .slice a n cap) 4 rfl
          have s5 := B25.cell (v := .int .i64 back) 5 rfl
          have s6 := B25.cell (v := .slice ra rn rc) 6 rfl
          have sl := B25.lt
          go_wp2_with fail
          refine (VB.out _ (Below.refl _ _)).mono ?_
          rintro e V40 ⟨va, vn, vc, rfl, -, hX⟩
          replace B25 := B25.below hX
          clear VB s0 s1 s2 s3 s4 s5 s6 sl
          unfold Wv
          try simp only
          go_upto_region 40 with fail
          refine wp_name (fun X => Bk X g25 #[.int .i64 bid, .int .i64 bgx, .int .i64 bgy, .int .i64 bt, .slice a n cap, .int .i64 back, .slice ra rn rc] 29 ∧ Below wc.heap.size wc X) ⟨B25.alloc _, hX.alloc hX.size _⟩ ?_
          clear B25 hX
          rintro V41 ⟨B25, hX⟩
          have s0 := B25.cell (v := .int .i64 bid) 0 rfl
          have s1 := B25.cell (v := .int .i64 bgx) 1 rfl
          have s2 := B25.cell (v := .int .i64 bgy) 2 rfl
          have s3 := B25.cell (v := .int .i64 bt) 3 rfl
          have s4 := B25.cell (v := .slice a n cap) 4 rfl
          have s5 := B25.cell (v := .int .i64 back) 5 rfl
          have s6 := B25.cell (v := .slice ra rn rc) 6 rfl
          have sl := B25.lt
          have s0m := fun p : Mutd (fun _ : Nat => False) V41 => cell_mutd s0 (fun e => e) p
          have s1m := fun p : Mutd (fun _ : Nat => False) V41 => cell_mutd s1 (fun e => e) p
          have s2m := fun p : Mutd (fun _ : Nat => False) V41 => cell_mutd s2 (fun e => e) p
          have s3m := fun p : Mutd (fun _ : Nat => False) V41 => cell_mutd s3 (fun e => e) p
          have s4m := fun p : Mutd (fun _ : Nat => False) V41 => cell_mutd s4 (fun e => e) p
          have s5m := fun p : Mutd (fun _ : Nat => False) V41 => cell_mutd s5 (fun e => e) p
          have s6m := fun p : Mutd (fun _ : Nat => False) V41 => cell_mutd s6 (fun e => e) p
          have HK := Lib.hid (And.intro hX B25)
          clear hX B25
          refine wp_region_low3 (posts2 18 (aBase ⟨1073741824, baseM 0 0⟩) 15 (aZw 2)) (fun _ : Nat => False) [1, 2] (sto1 6 7) 8 (by kernel_rfl) (fun b hb => hb.elim) (sto1_inj 6 7) (by kernel_rfl) ?_
          simp only [List.take, List.drop]
          iterate 1 (refine low3_step (sto1_no (by decide)) (fun K hK => ?_); go_simp; first | (refine hK _ ?_; clear hK K) | (apply Exists.intro; refine ⟨fun p => ?_, hK _ ?_⟩; clear hK K))
          refine low3_call 18 #[.int .i64 1073741824, .int .i64 0, .int .i64 0] (aBase ⟨1073741824, baseM 0 0⟩) (sto1_no (by decide)) (by decide) (by rfl) (fun w => by go_simp) (by simp [posts2]) (fun V hV => by
            exact (base_fresh 1073741824 0 0 V).mono fun e w' ⟨a, n, c, he, hF, hb⟩ => ⟨_, he, ⟨a, n, c, rfl, hF⟩, Mut.of_below hb⟩) ?_
          rintro v1 w1 w2 - ⟨b4, n4, c4, rfl, hF4⟩ -
          refine low3_call 15 #[.agg #[.int .i64 bid, .int .i64 bgx, .int .i64 bgy, .int .i64 bt, .slice a n cap, .int .i64 back, .slice ra rn rc], Wv 1073741824 b4 n4 c4, .int .i64 4611686018427387904] (aZw 2) (sto1_no (by decide)) (by decide) (by rfl) (fun w => by go_simp) (by simp [posts2]) (fun V hV => by
            have hbV : Below V41.heap.size V41 V := Mut.below hV.1 (Nat.le_refl _) (fun _ _ e => e)
            have hFV : Fresh w1.heap.size V (.slice b4 n4 c4) (baseM 0 0) := hF4.agree (fun b h1 h2 => (hV.2.2 (by decide)).1 b (.inr (.inr ⟨h1, h2⟩)))
            exact (RB.out V (below_cc hbV HK.out.1).1 b4 n4 c4 hFV.ents).mono fun e w' h => by
              obtain ⟨a1, n1, c1, pa1, pn1, pc1, he, hb⟩ := ce_z h
              exact ⟨_, he, ⟨a1, n1, c1, pa1, pn1, pc1, rfl⟩, Mut.of_below hb⟩) ?_
          rintro v2 w3 w4 - ⟨a1, n1, c1, pa1, pn1, pc1, rfl⟩ -
          iterate 3 (refine low3_step (sto1_no (by decide)) (fun K hK => ?_); go_simp; first | (refine hK _ ?_; clear hK K) | (apply Exists.intro; refine ⟨fun p => ?_, hK _ ?_⟩; clear hK K))
          refine low3_new (.cells #[.int .i64 0, .int .i64 0, .int .i64 0, .int .i64 0, .slice none 0 0, .int .i64 0, .slice none 0 0] 29) (sto1_no (by decide)) (by rfl) (fun w => by go_simp; try rfl) ?_
          intro g28
          refine low3_sto 6 g28 #[.int .i64 0, .int .i64 0, .int .i64 0, .int .i64 0, .slice none 0 0, .int .i64 0, .slice none 0 0] #[.int .i64 0, .int .i64 0, .int .i64 0, .int .i64 0, .slice a1 n1 c1, .int .i64 0, .slice pa1 pn1 pc1] 29 rfl (by rfl) ⟨⟨6, .data⟩, by simp, rfl, rfl⟩ rfl (fun w B => by
            have lt := B.lt
            have c_0 := B.cell (v := .int .i64 0) 0 rfl
            have f_0 := B.free 0
            have c_1 := B.cell (v := .int .i64 0) 1 rfl
            have f_1 := B.free 1
            have c_2 := B.cell (v := .int .i64 0) 2 rfl
            have f_2 := B.free 2
            have c_3 := B.cell (v := .int .i64 0) 3 rfl
            have f_3 := B.free 3
            have c_4 := B.cell (v := .slice none 0 0) 4 rfl
            have f_4 := B.free 4
            have c_5 := B.cell (v := .int .i64 0) 5 rfl
            have f_5 := B.free 5
            have c_6 := B.cell (v := .slice none 0 0) 6 rfl
            have f_6 := B.free 6
            go_simp
            show (((((((w.setCell ⟨g28, 0, none⟩ (.int .i64 0)).setCell ⟨g28, 1, none⟩ (.int .i64 0)).setCell ⟨g28, 2, none⟩ (.int .i64 0)).setCell ⟨g28, 3, none⟩ (.int .i64 0)).setCell ⟨g28, 4, none⟩ (.slice a1 n1 c1)).setCell ⟨g28, 5, none⟩ (.int .i64 0)).setCell ⟨g28, 6, none⟩ (.slice pa1 pn1 pc1)) = putObj w g28 (.cells #[.int .i64 0, .int .i64 0, .int .i64 0, .int .i64 0, .slice a1 n1 c1, .int .i64 0, .slice pa1 pn1 pc1] 29)
            rw [setCell_put B, setCell_put (putObj_heap B), putObj_twice, setCell_put (putObj_heap B), putObj_twice, setCell_put (putObj_heap B), putObj_twice, setCell_put (putObj_heap B), putObj_twice, setCell_put (putObj_heap B), putObj_twice, setCell_put (putObj_heap B), putObj_twice]; rfl) ?_
          refine low3_nil ?_
          intro V42 hC
          have hfr : Below V41.heap.size V41 V42 := hC.fr.below (Nat.le_refl _) (fun _ _ e => e)
          clear hC hF4 s0 s0m s1 s1m s2 s2m s3 s3m s4 s4m s5 s5m s6 s6m sl
          clear RB
          go_upto_region 41 with fail
          refine wp_name (fun X => Bk X g25 #[.int .i64 bid, .int .i64 bgx, .int .i64 bgy, .int .i64 bt, .slice a n cap, .int .i64 back, .slice ra rn rc] 29 ∧ Below wc.heap.size wc X) ⟨HK.out.2.below hfr, (below_cc hfr HK.out.1).1⟩ ?_
          clear hfr HK
          rintro V43 ⟨B25, hX⟩
          have s0 := B25.cell (v := .int .i64 bid) 0 rfl
          have s1 := B25.cell (v := .int .i64 bgx) 1 rfl
          have s2 := B25.cell (v := .int .i64 bgy) 2 rfl
          have s3 := B25.cell (v := .int .i64 bt) 3 rfl
          have s4 := B25.cell (v := .slice a n cap) 4 rfl
          have s5 := B25.cell (v := .int .i64 back) 5 rfl
          have s6 := B25.cell (v := .slice ra rn rc) 6 rfl
          have sl := B25.lt
          go_wp2_with fail
          refine (PB.out _ hX).mono ?_
          rintro e V44 hce
          obtain ⟨a1, n1, c1, pa1, pn1, pc1, rfl, hb2⟩ := ce_z hce
          replace B25 := B25.below hb2
          replace hX := (below_cc hb2 hX).1
          clear hce hb2 PB s0 s1 s2 s3 s4 s5 s6 sl
          go_upto_region 42 with fail
          refine wp_name (fun X => Bk X g25 #[.int .i64 bid, .int .i64 bgx, .int .i64 bgy, .int .i64 bt, .slice a n cap, .int .i64 back, .slice ra rn rc] 29 ∧ Below wc.heap.size wc X) ⟨B25.alloc _, hX.alloc hX.size _⟩ ?_
          clear B25 hX
          rintro V45 ⟨B25, hX⟩
          have s0 := B25.cell (v := .int .i64 bid) 0 rfl
          have s1 := B25.cell (v := .int .i64 bgx) 1 rfl
          have s2 := B25.cell (v := .int .i64 bgy) 2 rfl
          have s3 := B25.cell (v := .int .i64 bt) 3 rfl
          have s4 := B25.cell (v := .slice a n cap) 4 rfl
          have s5 := B25.cell (v := .int .i64 back) 5 rfl
          have s6 := B25.cell (v := .slice ra rn rc) 6 rfl
          have sl := B25.lt
          have s0m := fun p : Mutd (fun _ : Nat => False) V45 => cell_mutd s0 (fun e => e) p
          have s1m := fun p : Mutd (fun _ : Nat => False) V45 => cell_mutd s1 (fun e => e) p
          have s2m := fun p : Mutd (fun _ : Nat => False) V45 => cell_mutd s2 (fun e => e) p
          have s3m := fun p : Mutd (fun _ : Nat => False) V45 => cell_mutd s3 (fun e => e) p
          have s4m := fun p : Mutd (fun _ : Nat => False) V45 => cell_mutd s4 (fun e => e) p
          have s5m := fun p : Mutd (fun _ : Nat => False) V45 => cell_mutd s5 (fun e => e) p
          have s6m := fun p : Mutd (fun _ : Nat => False) V45 => cell_mutd s6 (fun e => e) p
          have HK := Lib.hid (And.intro hX B25)
          clear hX B25
          refine wp_region_low3 (posts2 18 (aBase ⟨1073741824, baseM 0 0⟩) 16 (aIs (VE 0 0 2))) (fun _ : Nat => False) [1, 2] (sto1 6 7) 8 (by kernel_rfl) (fun b hb => hb.elim) (sto1_inj 6 7) (by kernel_rfl) ?_
          simp only [List.take, List.drop]
          iterate 1 (refine low3_step (sto1_no (by decide)) (fun K hK => ?_); go_simp; first | (refine hK _ ?_; clear hK K) | (apply Exists.intro; refine ⟨fun p => ?_, hK _ ?_⟩; clear hK K))
          refine low3_call 18 #[.int .i64 1073741824, .int .i64 0, .int .i64 0] (aBase ⟨1073741824, baseM 0 0⟩) (sto1_no (by decide)) (by decide) (by rfl) (fun w => by go_simp) (by simp [posts2]) (fun V hV => by
            exact (base_fresh 1073741824 0 0 V).mono fun e w' ⟨a, n, c, he, hF, hb⟩ => ⟨_, he, ⟨a, n, c, rfl, hF⟩, Mut.of_below hb⟩) ?_
          rintro v1 w1 w2 - ⟨b4, n4, c4, rfl, hF4⟩ -
          refine low3_call 16 #[.agg #[.int .i64 bid, .int .i64 bgx, .int .i64 bgy, .int .i64 bt, .slice a n cap, .int .i64 back, .slice ra rn rc], Wv 1073741824 b4 n4 c4, .int .i64 4611686018427387904, .int .i64 1] (aIs (VE 0 0 2)) (sto1_no (by decide)) (by decide) (by rfl) (fun w => by go_simp) (by simp [posts2]) (fun V hV => by
            have hbV : Below V45.heap.size V45 V := Mut.below hV.1 (Nat.le_refl _) (fun _ _ e => e)
            have hFV : Fresh w1.heap.size V (.slice b4 n4 c4) (baseM 0 0) := hF4.agree (fun b h1 h2 => (hV.2.2 (by decide)).1 b (.inr (.inr ⟨h1, h2⟩)))
            exact (SB.out V (below_cc hbV HK.out.1).1 b4 n4 c4 hFV.ents).mono fun e w' ⟨he, hb⟩ => ⟨_, he, rfl, Mut.of_below hb⟩) ?_
          rintro v2 w3 w4 - rfl -
          unfold VE
          iterate 3 (refine low3_step (sto1_no (by decide)) (fun K hK => ?_); go_simp; first | (refine hK _ ?_; clear hK K) | (apply Exists.intro; refine ⟨fun p => ?_, hK _ ?_⟩; clear hK K))
          refine low3_new (.cells #[.int .i64 0, .int .i64 0] 23) (sto1_no (by decide)) (by rfl) (fun w => by go_simp; try rfl) ?_
          intro g32
          refine low3_sto 6 g32 #[.int .i64 0, .int .i64 0] #[.int .i64 0, .int .i64 0] 23 rfl (by rfl) ⟨⟨6, .data⟩, by simp, rfl, rfl⟩ rfl (fun w B => by
            have lt := B.lt
            have c_0 := B.cell (v := .int .i64 0) 0 rfl
            have f_0 := B.free 0
            have c_1 := B.cell (v := .int .i64 0) 1 rfl
            have f_1 := B.free 1
            go_simp
            show ((w.setCell ⟨g32, 0, none⟩ (.int .i64 0)).setCell ⟨g32, 1, none⟩ (.int .i64 0)) = putObj w g32 (.cells #[.int .i64 0, .int .i64 0] 23)
            rw [setCell_put B, setCell_put (putObj_heap B), putObj_twice]; rfl) ?_
          refine low3_nil ?_
          intro V46 hC
          have hfr : Below V45.heap.size V45 V46 := hC.fr.below (Nat.le_refl _) (fun _ _ e => e)
          clear hC hF4 s0 s0m s1 s1m s2 s2m s3 s3m s4 s4m s5 s5m s6 s6m sl
          clear SB
          go_upto_region 43 with fail
          refine wp_name (fun X => Bk X g25 #[.int .i64 bid, .int .i64 bgx, .int .i64 bgy, .int .i64 bt, .slice a n cap, .int .i64 back, .slice ra rn rc] 29 ∧ Below wc.heap.size wc X) ⟨HK.out.2.below hfr, (below_cc hfr HK.out.1).1⟩ ?_
          clear hfr HK
          rintro V47 ⟨B25, hX⟩
          have s0 := B25.cell (v := .int .i64 bid) 0 rfl
          have s1 := B25.cell (v := .int .i64 bgx) 1 rfl
          have s2 := B25.cell (v := .int .i64 bgy) 2 rfl
          have s3 := B25.cell (v := .int .i64 bt) 3 rfl
          have s4 := B25.cell (v := .slice a n cap) 4 rfl
          have s5 := B25.cell (v := .int .i64 back) 5 rfl
          have s6 := B25.cell (v := .slice ra rn rc) 6 rfl
          have sl := B25.lt
          go_wp2_with fail
          refine (VCB.out _ hX).mono ?_
          rintro e V48 ⟨rfl, hb2⟩
          have hb := (below_cc (below_cc hb2 hX).1 HB39.out).1
          clear hb2 VCB s0 s1 s2 s3 s4 s5 s6 sl
          go_wp2_with fail
          refine (AWK.out _ hb).mono ?_
          rintro e VA ⟨rfl, hbA⟩
          have hbE := (below_cc hbA hb).1
          clear hbA
          go_wp2
          go_returns
          exact ⟨rfl, hbE⟩
set_option maxHeartbeats 8000000 in
theorem wrong_big (id gx gy t ack : Int) (a : Option Addr) (n cap : Nat) (pa : Option Addr) (pn pc : Nat) (nn : Int) (hn : 0 ≤ nn ∧ nn ≤ 255) (mm : Int) (hm : I64 mm) (w : World) (hR : RG w) (hM : RM w) (hw : 2 ≤ w.heap.size) (h : EntsRaw w (.slice a n cap)) (hp : InpsRaw w (.slice pa pn pc)) (hbig : ¬ (SmallE w a n ∧ pn ≤ 66)) :
    Calls Tryz.prog 6 #[.agg #[.int .i64 id, .int .i64 gx, .int .i64 gy, .int .i64 t, .slice a n cap, .int .i64 ack, .slice pa pn pc], .int .u8 nn, .int .i64 mm] w fun e w' => e = .returned (.bool true) ∧ Below w.heap.size w w' := by
  have AWK := Lib.hid (fun V (hV : Below w.heap.size w V) => awake_any V (hR.below hV) (hM.low hV hw) (Nat.le_trans hw hV.size))
  have FW := Lib.hid (fun V (hV : Below w.heap.size w V) => Few_big id gx gy t ack a n cap pa pn pc V (h.below hV) (SlRaw.below (fun b o ⟨x, hx, hi⟩ => ⟨x, InpAt.below' hV b o x hx, hi⟩) hp) (fun q => hbig ⟨q.1.back h hV, q.2⟩))
  clear hR hM hw h hp hbig
  go_enter Tryz.func6, Tryz.ntmps6
  have HB1 := Lib.hid (show Bk (w.alloc (.cells #[.int .i64 id, .int .i64 gx, .int .i64 gy, .int .i64 t, .slice a n cap, .int .i64 ack, .slice pa pn pc] 29)) w.heap.size #[.int .i64 id, .int .i64 gx, .int .i64 gy, .int .i64 t, .slice a n cap, .int .i64 ack, .slice pa pn pc] 29 ∧ Below w.heap.size w (w.alloc (.cells #[.int .i64 id, .int .i64 gx, .int .i64 gy, .int .i64 t, .slice a n cap, .int .i64 ack, .slice pa pn pc] 29)) from ⟨Bk.made _ _ _, by go_grown⟩)
  go_wp2_with fail
  refine (FW.out _ HB1.out.2).mono ?_
  rintro e V1 ⟨rfl, hb1⟩
  obtain ⟨hb, hs⟩ := below_cc hb1 HB1.out.2
  clear hb1 HB1 FW
  go_wp2_with fail
  refine (AWK.out _ hb).mono ?_
  rintro e VA ⟨rfl, hbA⟩
  have hbE := (below_cc hbA hb).1
  clear hbA
  go_wp2
  go_returns
  exact ⟨rfl, hbE⟩
theorem cwrong_any (c : Cli) (a : Option Addr) (n cap : Nat) (pa : Option Addr) (pn pc : Nat) (nn : Int) (hn : 0 ≤ nn ∧ nn ≤ 255) (mm : Int) (hm : I64 mm) (w : World) (hR : RG w) (hM : RM w) (hw : 2 ≤ w.heap.size) (h : EntsAt w (.slice a n cap) c.b.es) (hp : InpsAt w (.slice pa pn pc) c.p) (hcap : pn ≤ pc) (hx : I64s c.p) (hid : I64 c.id ∧ I64 c.gx ∧ I64 c.gy ∧ I64 c.b.t ∧ I64 c.ack) :
    Calls Tryz.prog 6 #[Cv c a n cap pa pn pc, .int .u8 nn, .int .i64 mm] w fun e w' => e = .returned (.bool true) ∧ Below w.heap.size w w' := by
  rcases hv : validC c with _ | _
  · exact wrong_1 c a n cap pa pn pc nn hn mm hm w hR hM hw h hp hcap hx hid hv
  · exact wrong_2 c a n cap pa pn pc nn hn mm hm w hR hM hw h hp hcap hx hid hv
end Go.Proofs.YtlcjkomfjgddeaaGreatDoor
