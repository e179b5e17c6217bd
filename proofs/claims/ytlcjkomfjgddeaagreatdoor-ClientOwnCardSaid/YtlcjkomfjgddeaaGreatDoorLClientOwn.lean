/- The walk of ClientOwn. -/
import Derived.Test.YtlcjkomfjgddeaaGreatDoorOwnPlain
import Derived.Test.YtlcjkomfjgddeaaGreatDoorM41
import Derived.Test.YtlcjkomfjgddeaaGreatDoorM42
import Derived.Test.YtlcjkomfjgddeaaGreatDoorM39
set_option linter.unusedVariables false
set_option linter.unusedSimpArgs false
namespace Go.Proofs.YtlcjkomfjgddeaaGreatDoor
open Go Go.RowKit Go.Sort
set_option maxRecDepth 100000
attribute [local go_sem] opLow opUpon opLow2 opUpon2 opLow3

/-- client.Own: some list and some error -/
theorem own_some (W : Wld) (a : Option Addr) (n c : Nat) (id : Int) (w : World) (hR : RG w) (h : EntsAt w (.slice a n c) W.es) :
    Calls Tryz.prog 21 #[Wv W.t a n c, .int .i64 id] w fun e w' => ∃ oa on oc f, e = .returned (.tuple #[.slice oa on oc, .int .i64 f]) ∧ Below w.heap.size w w' := by
  by_cases hv : Valid W ∧ numB id = true
  · exact (own_ok W a n c id w hR h hv.1 hv.2).mono fun e w' ⟨oa, on, oc, he, _, hb⟩ => ⟨oa, on, oc, 0, he, hb⟩
  · exact (own_bad W a n c id w hR h hv).mono fun e w' ⟨he, hb⟩ => ⟨none, 0, 0, 2, he, hb⟩
theorem own_pred (c : Cli) (x : Inp) (a : Option Addr) (n cap : Nat) (w : World) (hR : RG w) (hM : RM w) (hw : 2 ≤ w.heap.size) (h : EntsAt w (.slice a n cap) c.b.es) (hX : I64 x.mx ∧ I64 x.my) (R : Wld × Int) (hr : predR c.b c.id c.gx c.gy x = R) :
    Calls Tryz.prog 14 #[Wv c.b.t a n cap, .int .i64 c.id, V2 c.gx c.gy, Iv x] w (WFPost w R) := by
  have := predict_fresh c.b a n cap c.id c.gx c.gy x w hR hM hw h hX
  rw [hr] at this
  exact this
/-- what stays -/
structure OS (w : World) (A1 : Array Value) (g5 : Nat) (rt : Int) (rv : Value) (res : List Ent) (V : World) : Prop where
  b2 : Bk V w.heap.size A1 29
  b5 : Bk V g5 #[.int .i64 rt, rv] 26
  res : EntsAt V rv res
  bel : Below w.heap.size w V
theorem OS.below {w : World} {A1 : Array Value} {g5 : Nat} {rt : Int} {rv : Value} {res : List Ent} {V V' : World} (h : OS w A1 g5 rt rv res V) (hb : Below V.heap.size V V') : OS w A1 g5 rt rv res V' :=
  ⟨h.b2.below hb, h.b5.below hb, EntsAt.below h.res hb, (below_cc hb h.bel).1⟩

theorem get_own {W : Wld} (hV : Valid W) {i : Nat} {e : Ent} (he : W.es[i]? = some e) (id : Int) : ∃ (o : Cmp) (ok : Bool), getV W e.id 4 = .tuple #[C o, .bool ok] ∧ (ok && decide (o.a = id)) = ownB id e := by
  have h1 := getM_at hV he 4
  have h2 := mine_own (hV.2.2.2 e (List.mem_iff_getElem?.2 ⟨i, he⟩)) id
  rcases hg : getM W e.id 4 with _ | o
  · rw [← h1, hg] at h2
    exact ⟨_, false, getV_none hg, by rw [Bool.false_and]; exact h2⟩
  · rw [← h1, hg] at h2
    exact ⟨o, true, getV_some hg, by rw [Bool.true_and]; exact h2⟩
theorem ints_cell {w : World} {a : Option Addr} {n c : Nat} {l : List Int} (h : IntsAt w (.slice a n c) l) {k : Nat} {v : Int} (hk : l[k]? = some v) : ∃ b off, a = some ⟨b, off, none⟩ ∧ w.cell? ⟨b, off + k, none⟩ = some (.int .i64 v) := by
  rcases h with ⟨_, h2⟩ | ⟨b, off, cap, h1, hl, hc⟩
  · rw [h2] at hk; cases hk
  · injection h1 with q1 q2 q3
    have := hc k v hk
    unfold IntAt at this
    rw [Nat.mul_one] at this
    exact ⟨b, off, q1, this⟩

theorem comps_small {W : Wld} (hV : Valid W) {i : Nat} {e : Ent} (he : W.es[i]? = some e) : e.cs.length ≤ 1000 := by
  have hR := hV.2.2.2 e (List.mem_iff_getElem?.2 ⟨i, he⟩)
  have fk : ∀ x ∈ e.cs, 1 ≤ x.k ∧ x.k ≤ 10 := fun x hx => by
    have h := hR.2.2 x hx
    unfold fits at h
    simp only [Bool.and_eq_true, decide_eq_true_eq] at h
    exact ⟨h.1.1.1, h.1.1.2⟩
  have key : ∀ j, j < e.cs.length → (j : Int) + 1 ≤ (e.cs.map Cmp.k).getD j 0 := fun j => by
    induction j with
    | zero =>
      intro hj
      rw [List.getD, List.getElem?_map, List.getElem?_eq_getElem hj]
      have := (fk _ (List.getElem_mem hj)).1
      simpa using this
    | succ j ih =>
      intro hj
      have h1 := ih (by omega)
      have h2 := rises_lt hR.rises (a := j) (b := j + 1) (by omega) (by simpa using hj)
      omega
  rcases Nat.eq_zero_or_pos e.cs.length with h0 | h0
  · omega
  · have h1 := key (e.cs.length - 1) (by omega)
    rw [List.getD, List.getElem?_map, List.getElem?_eq_getElem (by omega)] at h1
    have h2 := (fk _ (List.getElem_mem (show e.cs.length - 1 < e.cs.length by omega))).2
    simp at h1
    omega
def aPart (en : Ent) : Array Value → Value → World → World → Prop := fun _ v w1 w2 => ∃ a n c, v = .agg #[.int .i64 en.id, .slice a n c] ∧ RowC w1.heap.size w2 (.slice a n c) (en.cs.filter (inM 2040)) ∧ Below w1.heap.size w1 w2
theorem RowC.agree {base : Nat} {w w' : World} {v : Value} {l : List Cmp} (h : RowC base w v l) (hb : ∀ b, base ≤ b → b < w.heap.size → w'.heap[b]? = w.heap[b]?) : RowC base w' v l := by
  refine ⟨⟨h.1.1, ?_⟩, h.2⟩
  rcases h.1.2 with h1 | ⟨g, cap, cur, hv, hg, hh, hrr⟩
  · exact .inl h1
  · refine .inr ⟨g, cap, cur, hv, hg, ?_, hrr⟩
    have hlt : g < w.heap.size := (Array.getElem?_eq_some_iff.1 hh).1
    rw [hb g hg hlt]; exact hh
def postsO (e y : Ent) : Posts := fun h => if h = 23 then some (aIs (.bool true)) else if h = 25 then some (aIs (.int .u32 (maskM e.cs))) else if h = 24 then some (aPart e) else none
set_option maxHeartbeats 16000000 in
theorem own_1 (c : Cli) (a : Option Addr) (n cap : Nat) (pa : Option Addr) (pn pc : Nat) (x : Inp) (hX : I64 x.mx ∧ I64 x.my) (w : World) (hR : RG w) (hM : RM w) (hw : 2 ≤ w.heap.size) (h : EntsAt w (.slice a n cap) c.b.es) (hp : InpsAt w (.slice pa pn pc) c.p) (hcap : pn ≤ pc) (hx : I64s c.p) (hid : I64 c.id ∧ I64 c.gx ∧ I64 c.gy ∧ I64 c.b.t ∧ I64 c.ack) (R : Wld) (z : Int) (hz : ¬ z = 0) (hr : predR c.b c.id c.gx c.gy x = (⟨0, []⟩, z)) (hR0 : R = ⟨0, []⟩) :
    Calls Tryz.prog 7 #[Cv c a n cap pa pn pc, Iv x] w fun e w' => e = .returned (.bool true) ∧ Below w.heap.size w w' := by
  have AWK := Lib.hid (fun V (hV : Below w.heap.size w V) => awake_any V (hR.below hV) (hM.low hV hw) (Nat.le_trans hw hV.size))
  have FW := Lib.hid (fun V (hV : Below w.heap.size w V) => Few_any c a n cap pa pn pc V (EntsAt.below h hV) (InpsAt.below hp hV))
  have PR := Lib.hid (fun V (hV : Below w.heap.size w V) (y : Inp) (hy : y.mx = x.mx ∧ y.my = x.my) => own_pred c y a n cap V (hR.below hV) (hM.low hV hw) (Nat.le_trans hw hV.size) (EntsAt.below h hV) (by rw [hy.1, hy.2]; exact hX) (⟨0, []⟩, z) (by rw [← hr, predR_move c.b c.id c.gx c.gy y, predR_move c.b c.id c.gx c.gy x, hy.1, hy.2]))
  have OW := Lib.hid (fun V (hV : Below w.heap.size w V) => own_some c.b a n cap c.id V (hR.below hV) (EntsAt.below h hV))
  subst hR0
  clear hR hM hw h hp hx hr hid hX hcap
  unfold Cv ccs at FW
  unfold Cv ccs Iv
  go_enter Tryz.func7, Tryz.ntmps7
  have HB1 := Lib.hid (show Bk ((w.alloc (.cells #[.int .i64 c.id, .int .i64 c.gx, .int .i64 c.gy, .int .i64 c.b.t, .slice a n cap, .int .i64 c.ack, .slice pa pn pc] 29)).alloc (.cells #[.int .i64 x.c, .int .i64 x.s, .int .i64 x.t, .int .i64 x.mx, .int .i64 x.my, .bool x.fire, .int .i64 x.ax, .int .i64 x.ay, .int .i64 x.seen, .int .i64 x.part] 37)) w.heap.size #[.int .i64 c.id, .int .i64 c.gx, .int .i64 c.gy, .int .i64 c.b.t, .slice a n cap, .int .i64 c.ack, .slice pa pn pc] 29 ∧ Bk ((w.alloc (.cells #[.int .i64 c.id, .int .i64 c.gx, .int .i64 c.gy, .int .i64 c.b.t, .slice a n cap, .int .i64 c.ack, .slice pa pn pc] 29)).alloc (.cells #[.int .i64 x.c, .int .i64 x.s, .int .i64 x.t, .int .i64 x.mx, .int .i64 x.my, .bool x.fire, .int .i64 x.ax, .int .i64 x.ay, .int .i64 x.seen, .int .i64 x.part] 37)) (w.heap.size + 1) #[.int .i64 x.c, .int .i64 x.s, .int .i64 x.t, .int .i64 x.mx, .int .i64 x.my, .bool x.fire, .int .i64 x.ax, .int .i64 x.ay, .int .i64 x.seen, .int .i64 x.part] 37 ∧ Below w.heap.size w ((w.alloc (.cells #[.int .i64 c.id, .int .i64 c.gx, .int .i64 c.gy, .int .i64 c.b.t, .slice a n cap, .int .i64 c.ack, .slice pa pn pc] 29)).alloc (.cells #[.int .i64 x.c, .int .i64 x.s, .int .i64 x.t, .int .i64 x.mx, .int .i64 x.my, .bool x.fire, .int .i64 x.ax, .int .i64 x.ay, .int .i64 x.seen, .int .i64 x.part] 37)) from ⟨(Bk.made _ _ _).alloc _, Bk.at_ (by simp), by go_grown⟩)
  go_wp2_with fail
  refine (FW.out _ HB1.out.2.2).mono ?_
  rintro e V1 ⟨fb, rfl, hb1⟩
  have B1 := HB1.out.1.below hb1
  have B3 := HB1.out.2.1.below hb1
  obtain ⟨hb, hs⟩ := below_cc hb1 HB1.out.2.2
  clear hb1 HB1 FW
  cases fb
  · go_wp2_with fail
    refine (AWK.out _ hb).mono ?_
    rintro e VA ⟨rfl, hbA⟩
    have hbE := (below_cc hbA hb).1
    clear hbA
    go_wp2
    go_returns
    exact ⟨rfl, hbE⟩
  · have s0 := B1.cell (v := .int .i64 c.id) 0 rfl
    have s1 := B1.cell (v := .int .i64 c.gx) 1 rfl
    have s2 := B1.cell (v := .int .i64 c.gy) 2 rfl
    have s3 := B1.cell (v := .int .i64 c.b.t) 3 rfl
    have s4 := B1.cell (v := .slice a n cap) 4 rfl
    have s5 := B1.cell (v := .int .i64 c.ack) 5 rfl
    have s6 := B1.cell (v := .slice pa pn pc) 6 rfl
    have sl := B1.lt
    have j0 := B3.cell (v := .int .i64 x.c) 0 rfl
    have j1 := B3.cell (v := .int .i64 x.s) 1 rfl
    have j2 := B3.cell (v := .int .i64 x.t) 2 rfl
    have j3 := B3.cell (v := .int .i64 x.mx) 3 rfl
    have j4 := B3.cell (v := .int .i64 x.my) 4 rfl
    have j5 := B3.cell (v := .bool x.fire) 5 rfl
    have j6 := B3.cell (v := .int .i64 x.ax) 6 rfl
    have j7 := B3.cell (v := .int .i64 x.ay) 7 rfl
    have j8 := B3.cell (v := .int .i64 x.seen) 8 rfl
    have j9 := B3.cell (v := .int .i64 x.part) 9 rfl
    have jl := B3.lt
    have PK := PR.out V1 hb x ⟨rfl, rfl⟩
    unfold Wv V2 Iv at PK
    have HPK := Lib.hid PK
    clear PK
    go_wp2_with fail
    refine HPK.out.mono ?_
    rintro e V2b ⟨ra, rn, rc, rfl, hF, hb2⟩
    replace B1 := B1.below hb2
    replace B3 := B3.below hb2
    replace hF := hF.mono (base' := 0) (Nat.zero_le _)
    obtain ⟨hb, hs⟩ := below_cc hb2 hb
    clear hb2 HPK s0 s1 s2 s3 s4 s5 s6 sl j0 j1 j2 j3 j4 j5 j6 j7 j8 j9 jl
    unfold Wv
    try simp only
    have HB := Lib.hid (And.intro hb (And.intro hs hF))
    clear hb hs hF
    go_upto_region 4 with fail
    refine wp_name (fun X => (Bk X w.heap.size #[.int .i64 c.id, .int .i64 c.gx, .int .i64 c.gy, .int .i64 c.b.t, .slice a n cap, .int .i64 c.ack, .slice pa pn pc] 29 ∧ Bk X (w.heap.size + 1) #[.int .i64 x.c, .int .i64 x.s, .int .i64 x.t, .int .i64 x.mx, .int .i64 x.my, .bool x.fire, .int .i64 x.ax, .int .i64 x.ay, .int .i64 x.seen, .int .i64 x.part] 37 ∧ Below w.heap.size w X) ∧ Bk X V2b.heap.size #[.int .i64 0, .slice ra rn rc] 26 ∧ EntsAt X (.slice ra rn rc) ([] : List Ent)) ⟨⟨B1.alloc _, B3.alloc _, HB.out.1.alloc HB.out.2.1 _⟩, Bk.made _ _ _, EntsAt.below HB.out.2.2.ents ((Below.refl _ _).alloc (Nat.le_refl _) _)⟩ ?_
    obtain ⟨g5, hg5⟩ : ∃ g, V2b.heap.size = g := ⟨_, rfl⟩
    rw [hg5]
    clear hg5 HB B1 B3
    rintro V3 ⟨⟨B1, B3, hb⟩, B5, hE⟩
    have s0 := B1.cell (v := .int .i64 c.id) 0 rfl
    have s1 := B1.cell (v := .int .i64 c.gx) 1 rfl
    have s2 := B1.cell (v := .int .i64 c.gy) 2 rfl
    have s3 := B1.cell (v := .int .i64 c.b.t) 3 rfl
    have s4 := B1.cell (v := .slice a n cap) 4 rfl
    have s5 := B1.cell (v := .int .i64 c.ack) 5 rfl
    have s6 := B1.cell (v := .slice pa pn pc) 6 rfl
    have sl := B1.lt
    have PK := OW.out V3 hb
    unfold Wv at PK
    have HPK := Lib.hid PK
    clear PK OW
    have HB := Lib.hid (And.intro B1 (And.intro B3 (And.intro hb (And.intro B5 hE))))
    clear B1 B3 hb B5 hE
    go_wp2_with fail
    refine HPK.out.mono ?_
    rintro e V4 ⟨oa, on, oc, f, rfl, hb2⟩
    have HB2 := Lib.hid (And.intro (HB.out.1.below hb2) (And.intro (HB.out.2.1.below hb2) (And.intro (below_cc hb2 HB.out.2.2.1).1 (And.intro (HB.out.2.2.2.1.below hb2) (EntsAt.below HB.out.2.2.2.2 hb2)))))
    clear hb2 HPK HB s0 s1 s2 s3 s4 s5 s6 sl
    go_upto_region 5 with fail
    have B1 := HB2.out.1
    have B3 := HB2.out.2.1
    have s0 := B1.cell (v := .int .i64 c.id) 0 rfl
    have s1 := B1.cell (v := .int .i64 c.gx) 1 rfl
    have s2 := B1.cell (v := .int .i64 c.gy) 2 rfl
    have s3 := B1.cell (v := .int .i64 c.b.t) 3 rfl
    have s4 := B1.cell (v := .slice a n cap) 4 rfl
    have s5 := B1.cell (v := .int .i64 c.ack) 5 rfl
    have s6 := B1.cell (v := .slice pa pn pc) 6 rfl
    have sl := B1.lt
    have j0 := B3.cell (v := .int .i64 x.c) 0 rfl
    have j1 := B3.cell (v := .int .i64 x.s) 1 rfl
    have j2 := B3.cell (v := .int .i64 x.t) 2 rfl
    have j3 := B3.cell (v := .int .i64 x.mx) 3 rfl
    have j4 := B3.cell (v := .int .i64 x.my) 4 rfl
    have j5 := B3.cell (v := .bool x.fire) 5 rfl
    have j6 := B3.cell (v := .int .i64 x.ax) 6 rfl
    have j7 := B3.cell (v := .int .i64 x.ay) 7 rfl
    have j8 := B3.cell (v := .int .i64 x.seen) 8 rfl
    have j9 := B3.cell (v := .int .i64 x.part) 9 rfl
    have jl := B3.lt
    have PK := PR.out V4 HB2.out.2.2.1 ⟨0, 0, 0, x.mx, x.my, false, 0, 0, 0, 0⟩ ⟨rfl, rfl⟩
    unfold Wv V2 Iv at PK
    simp only at PK
    have HPK := Lib.hid PK
    clear PK B1 B3 PR
    go_wp2_with fail
    refine HPK.out.mono ?_
    rintro e V5 ⟨va, vn, vc, rfl, hF, hb2⟩
    replace hF := hF.mono (base' := 0) (Nat.zero_le _)
    have HB := Lib.hid (And.intro (HB2.out.1.below hb2) (And.intro (below_cc hb2 HB2.out.2.2.1).1 (And.intro (HB2.out.2.2.2.1.below hb2) (And.intro (EntsAt.below HB2.out.2.2.2.2 hb2) hF))))
    clear hb2 hF HPK HB2 s0 s1 s2 s3 s4 s5 s6 sl j0 j1 j2 j3 j4 j5 j6 j7 j8 j9 jl
    unfold Wv
    try simp only
    go_upto_region 6 with fail
    refine wp_name (fun X => OS w #[.int .i64 c.id, .int .i64 c.gx, .int .i64 c.gy, .int .i64 c.b.t, .slice a n cap, .int .i64 c.ack, .slice pa pn pc] g5 0 (.slice ra rn rc) ([] : List Ent) X ∧ Bk X V5.heap.size #[.int .i64 0, .slice va vn vc] 26 ∧ EntsAt X (.slice va vn vc) ([] : List Ent)) ⟨⟨HB.out.1.alloc _, HB.out.2.2.1.alloc _, EntsAt.below HB.out.2.2.2.1 ((Below.refl _ _).alloc (Nat.le_refl _) _), HB.out.2.1.alloc HB.out.2.1.size _⟩, Bk.made _ _ _, EntsAt.below HB.out.2.2.2.2.ents ((Below.refl _ _).alloc (Nat.le_refl _) _)⟩ ?_
    obtain ⟨g9, hg9⟩ : ∃ g, V5.heap.size = g := ⟨_, rfl⟩
    rw [hg9]
    clear hg9 HB
    rintro V6 ⟨hS, B9, hE9⟩
    have SM := Lib.hid (sameW_any ⟨0, ([] : List Ent)⟩ ra rn rc va vn vc V6 hS.res hE9)
    unfold Wv at SM
    simp only at SM
    have y0 := hS.b5.cell (v := .int .i64 0) 0 rfl
    have y1 := hS.b5.cell (v := .slice ra rn rc) 1 rfl
    have yl := hS.b5.lt
    have z0 := B9.cell (v := .int .i64 0) 0 rfl
    have z1 := B9.cell (v := .slice va vn vc) 1 rfl
    have zl := B9.lt
    have HS := Lib.hid hS
    clear hS B9 hE9
    go_wp2_with fail
    refine SM.out.mono ?_
    rintro e V7 ⟨rfl, hb2⟩
    have hS := HS.out.below hb2
    clear hb2 SM HS y0 y1 yl z0 z1 zl
    have y0 := hS.b5.cell (v := .int .i64 0) 0 rfl
    have y1 := hS.b5.cell (v := .slice ra rn rc) 1 rfl
    have yl := hS.b5.lt
    have d0 : (z == 0) = false := by simp; exact hz
    have SM := Lib.hid (sameW_any ⟨0, []⟩ ra rn rc none 0 0 V7 hS.res (ents_nil _))
    unfold Wv at SM
    simp only at SM
    have HS := Lib.hid hS
    clear hS
    go_wp2_with fail
    refine SM.out.mono ?_
    rintro e V8 ⟨rfl, hb2⟩
    have hb := (below_cc hb2 HS.out.bel).1
    clear hb2 SM HS y0 y1 yl
    go_wp2_with fail
    refine (AWK.out _ hb).mono ?_
    rintro e VA ⟨rfl, hbA⟩
    have hbE := (below_cc hbA hb).1
    clear hbA
    go_wp2
    go_returns
    exact ⟨rfl, hbE⟩
set_option maxHeartbeats 16000000 in
theorem own_2 (c : Cli) (a : Option Addr) (n cap : Nat) (pa : Option Addr) (pn pc : Nat) (x : Inp) (hX : I64 x.mx ∧ I64 x.my) (w : World) (hR : RG w) (hM : RM w) (hw : 2 ≤ w.heap.size) (h : EntsAt w (.slice a n cap) c.b.es) (hp : InpsAt w (.slice pa pn pc) c.p) (hcap : pn ≤ pc) (hx : I64s c.p) (hid : I64 c.id ∧ I64 c.gx ∧ I64 c.gy ∧ I64 c.b.t ∧ I64 c.ack) (R : Wld) (hr : predR c.b c.id c.gx c.gy x = (R, 0)) :
    Calls Tryz.prog 7 #[Cv c a n cap pa pn pc, Iv x] w fun e w' => e = .returned (.bool true) ∧ Below w.heap.size w w' := by
  have AWK := Lib.hid (fun V (hV : Below w.heap.size w V) => awake_any V (hR.below hV) (hM.low hV hw) (Nat.le_trans hw hV.size))
  have FW := Lib.hid (fun V (hV : Below w.heap.size w V) => Few_any c a n cap pa pn pc V (EntsAt.below h hV) (InpsAt.below hp hV))
  have PR := Lib.hid (fun V (hV : Below w.heap.size w V) (y : Inp) (hy : y.mx = x.mx ∧ y.my = x.my) => own_pred c y a n cap V (hR.below hV) (hM.low hV hw) (Nat.le_trans hw hV.size) (EntsAt.below h hV) (by rw [hy.1, hy.2]; exact hX) (R, 0) (by rw [← hr, predR_move c.b c.id c.gx c.gy y, predR_move c.b c.id c.gx c.gy x, hy.1, hy.2]))
  obtain ⟨hVW, htick, hRW, hokp⟩ := predR_ok hr
  have hnb : numB c.id = true := by
    unfold okP at hokp
    simp only [Bool.and_eq_true] at hokp
    exact hokp.2.1
  have OW := Lib.hid (fun V (hV : Below w.heap.size w V) => own_ok c.b a n cap c.id V (hR.below hV) (EntsAt.below h hV) hVW hnb)
  have VAL := Lib.hid (fun V (hV : Below w.heap.size w V) (ra : Option Addr) (rn rc : Nat) (hE : EntsAt V (.slice ra rn rc) R.es) => valid_any R ra rn rc V (hR.below hV) hE)
  have hVR : Valid R := by rw [hRW]; exact pred_valid hVW htick
  have GE := Lib.hid (fun V (hV : Below w.heap.size w V) i => get_any c.b a n cap i 4 V (hR.below hV) (EntsAt.below h hV) hVW)
  have HPL := Lib.hid (And.intro hVW (And.intro hRW (And.intro hVR h)))
  have hrt : R.t = c.b.t + 1 := by rw [hRW]; rfl
  have htk := hVW.1
  have hnl : n = c.b.es.length := ListAt.len h
  have hn64 : n ≤ 64 := by have := hVW.2.1; omega
  have wt : IntKind.i64.wrap (c.b.t + 1) = R.t := by rw [hrt, IntKind.wrap_i64]; omega
  have HRT := Lib.hid hrt
  have HNL := Lib.hid hnl
  rw [decide_eq_true hVR] at VAL
  clear hR hM hw h hp hx hr hVW htick hRW hokp hnb hVR hid hX hcap hrt htk hnl
  unfold Cv ccs at FW
  unfold Cv ccs Iv
  go_enter Tryz.func7, Tryz.ntmps7
  have HB1 := Lib.hid (show Bk ((w.alloc (.cells #[.int .i64 c.id, .int .i64 c.gx, .int .i64 c.gy, .int .i64 c.b.t, .slice a n cap, .int .i64 c.ack, .slice pa pn pc] 29)).alloc (.cells #[.int .i64 x.c, .int .i64 x.s, .int .i64 x.t, .int .i64 x.mx, .int .i64 x.my, .bool x.fire, .int .i64 x.ax, .int .i64 x.ay, .int .i64 x.seen, .int .i64 x.part] 37)) w.heap.size #[.int .i64 c.id, .int .i64 c.gx, .int .i64 c.gy, .int .i64 c.b.t, .slice a n cap, .int .i64 c.ack, .slice pa pn pc] 29 ∧ Bk ((w.alloc (.cells #[.int .i64 c.id, .int .i64 c.gx, .int .i64 c.gy, .int .i64 c.b.t, .slice a n cap, .int .i64 c.ack, .slice pa pn pc] 29)).alloc (.cells #[.int .i64 x.c, .int .i64 x.s, .int .i64 x.t, .int .i64 x.mx, .int .i64 x.my, .bool x.fire, .int .i64 x.ax, .int .i64 x.ay, .int .i64 x.seen, .int .i64 x.part] 37)) (w.heap.size + 1) #[.int .i64 x.c, .int .i64 x.s, .int .i64 x.t, .int .i64 x.mx, .int .i64 x.my, .bool x.fire, .int .i64 x.ax, .int .i64 x.ay, .int .i64 x.seen, .int .i64 x.part] 37 ∧ Below w.heap.size w ((w.alloc (.cells #[.int .i64 c.id, .int .i64 c.gx, .int .i64 c.gy, .int .i64 c.b.t, .slice a n cap, .int .i64 c.ack, .slice pa pn pc] 29)).alloc (.cells #[.int .i64 x.c, .int .i64 x.s, .int .i64 x.t, .int .i64 x.mx, .int .i64 x.my, .bool x.fire, .int .i64 x.ax, .int .i64 x.ay, .int .i64 x.seen, .int .i64 x.part] 37)) from ⟨(Bk.made _ _ _).alloc _, Bk.at_ (by simp), by go_grown⟩)
  go_wp2_with fail
  refine (FW.out _ HB1.out.2.2).mono ?_
  rintro e V1 ⟨fb, rfl, hb1⟩
  have B1 := HB1.out.1.below hb1
  have B3 := HB1.out.2.1.below hb1
  obtain ⟨hb, hs⟩ := below_cc hb1 HB1.out.2.2
  clear hb1 HB1 FW
  cases fb
  · go_wp2_with fail
    refine (AWK.out _ hb).mono ?_
    rintro e VA ⟨rfl, hbA⟩
    have hbE := (below_cc hbA hb).1
    clear hbA
    go_wp2
    go_returns
    exact ⟨rfl, hbE⟩
  · have s0 := B1.cell (v := .int .i64 c.id) 0 rfl
    have s1 := B1.cell (v := .int .i64 c.gx) 1 rfl
    have s2 := B1.cell (v := .int .i64 c.gy) 2 rfl
    have s3 := B1.cell (v := .int .i64 c.b.t) 3 rfl
    have s4 := B1.cell (v := .slice a n cap) 4 rfl
    have s5 := B1.cell (v := .int .i64 c.ack) 5 rfl
    have s6 := B1.cell (v := .slice pa pn pc) 6 rfl
    have sl := B1.lt
    have j0 := B3.cell (v := .int .i64 x.c) 0 rfl
    have j1 := B3.cell (v := .int .i64 x.s) 1 rfl
    have j2 := B3.cell (v := .int .i64 x.t) 2 rfl
    have j3 := B3.cell (v := .int .i64 x.mx) 3 rfl
    have j4 := B3.cell (v := .int .i64 x.my) 4 rfl
    have j5 := B3.cell (v := .bool x.fire) 5 rfl
    have j6 := B3.cell (v := .int .i64 x.ax) 6 rfl
    have j7 := B3.cell (v := .int .i64 x.ay) 7 rfl
    have j8 := B3.cell (v := .int .i64 x.seen) 8 rfl
    have j9 := B3.cell (v := .int .i64 x.part) 9 rfl
    have jl := B3.lt
    have PK := PR.out V1 hb x ⟨rfl, rfl⟩
    unfold Wv V2 Iv at PK
    have HPK := Lib.hid PK
    clear PK
    go_wp2_with fail
    refine HPK.out.mono ?_
    rintro e V2b ⟨ra, rn, rc, rfl, hF, hb2⟩
    replace B1 := B1.below hb2
    replace B3 := B3.below hb2
    replace hF := hF.mono (base' := 0) (Nat.zero_le _)
    obtain ⟨hb, hs⟩ := below_cc hb2 hb
    clear hb2 HPK s0 s1 s2 s3 s4 s5 s6 sl j0 j1 j2 j3 j4 j5 j6 j7 j8 j9 jl
    unfold Wv
    try simp only
    have HB := Lib.hid (And.intro hb (And.intro hs hF))
    clear hb hs hF
    go_upto_region 4 with fail
    refine wp_name (fun X => (Bk X w.heap.size #[.int .i64 c.id, .int .i64 c.gx, .int .i64 c.gy, .int .i64 c.b.t, .slice a n cap, .int .i64 c.ack, .slice pa pn pc] 29 ∧ Bk X (w.heap.size + 1) #[.int .i64 x.c, .int .i64 x.s, .int .i64 x.t, .int .i64 x.mx, .int .i64 x.my, .bool x.fire, .int .i64 x.ax, .int .i64 x.ay, .int .i64 x.seen, .int .i64 x.part] 37 ∧ Below w.heap.size w X) ∧ Bk X V2b.heap.size #[.int .i64 R.t, .slice ra rn rc] 26 ∧ EntsAt X (.slice ra rn rc) R.es) ⟨⟨B1.alloc _, B3.alloc _, HB.out.1.alloc HB.out.2.1 _⟩, Bk.made _ _ _, EntsAt.below HB.out.2.2.ents ((Below.refl _ _).alloc (Nat.le_refl _) _)⟩ ?_
    obtain ⟨g5, hg5⟩ : ∃ g, V2b.heap.size = g := ⟨_, rfl⟩
    rw [hg5]
    clear hg5 HB B1 B3
    rintro V3 ⟨⟨B1, B3, hb⟩, B5, hE⟩
    have s0 := B1.cell (v := .int .i64 c.id) 0 rfl
    have s1 := B1.cell (v := .int .i64 c.gx) 1 rfl
    have s2 := B1.cell (v := .int .i64 c.gy) 2 rfl
    have s3 := B1.cell (v := .int .i64 c.b.t) 3 rfl
    have s4 := B1.cell (v := .slice a n cap) 4 rfl
    have s5 := B1.cell (v := .int .i64 c.ack) 5 rfl
    have s6 := B1.cell (v := .slice pa pn pc) 6 rfl
    have sl := B1.lt
    have PK := OW.out V3 hb
    unfold Wv at PK
    have HPK := Lib.hid PK
    clear PK OW
    have HB := Lib.hid (And.intro B1 (And.intro B3 (And.intro hb (And.intro B5 hE))))
    clear B1 B3 hb B5 hE
    go_wp2_with fail
    refine HPK.out.mono ?_
    rintro e V4 ⟨oa, on, oc, rfl, hI, hb2⟩
    have HB2 := Lib.hid (And.intro (HB.out.1.below hb2) (And.intro (HB.out.2.1.below hb2) (And.intro (below_cc hb2 HB.out.2.2.1).1 (And.intro (HB.out.2.2.2.1.below hb2) (EntsAt.below HB.out.2.2.2.2 hb2)))))
    clear hb2 HPK HB s0 s1 s2 s3 s4 s5 s6 sl
    have HI := Lib.hid hI
    clear hI
    go_upto_region 5 with fail
    have B1 := HB2.out.1
    have B3 := HB2.out.2.1
    have s0 := B1.cell (v := .int .i64 c.id) 0 rfl
    have s1 := B1.cell (v := .int .i64 c.gx) 1 rfl
    have s2 := B1.cell (v := .int .i64 c.gy) 2 rfl
    have s3 := B1.cell (v := .int .i64 c.b.t) 3 rfl
    have s4 := B1.cell (v := .slice a n cap) 4 rfl
    have s5 := B1.cell (v := .int .i64 c.ack) 5 rfl
    have s6 := B1.cell (v := .slice pa pn pc) 6 rfl
    have sl := B1.lt
    have j0 := B3.cell (v := .int .i64 x.c) 0 rfl
    have j1 := B3.cell (v := .int .i64 x.s) 1 rfl
    have j2 := B3.cell (v := .int .i64 x.t) 2 rfl
    have j3 := B3.cell (v := .int .i64 x.mx) 3 rfl
    have j4 := B3.cell (v := .int .i64 x.my) 4 rfl
    have j5 := B3.cell (v := .bool x.fire) 5 rfl
    have j6 := B3.cell (v := .int .i64 x.ax) 6 rfl
    have j7 := B3.cell (v := .int .i64 x.ay) 7 rfl
    have j8 := B3.cell (v := .int .i64 x.seen) 8 rfl
    have j9 := B3.cell (v := .int .i64 x.part) 9 rfl
    have jl := B3.lt
    have PK := PR.out V4 HB2.out.2.2.1 ⟨0, 0, 0, x.mx, x.my, false, 0, 0, 0, 0⟩ ⟨rfl, rfl⟩
    unfold Wv V2 Iv at PK
    simp only at PK
    have HPK := Lib.hid PK
    clear PK B1 B3 PR
    go_wp2_with fail
    refine HPK.out.mono ?_
    rintro e V5 ⟨va, vn, vc, rfl, hF, hb2⟩
    replace hF := hF.mono (base' := 0) (Nat.zero_le _)
    have HB := Lib.hid (And.intro (HB2.out.1.below hb2) (And.intro (below_cc hb2 HB2.out.2.2.1).1 (And.intro (HB2.out.2.2.2.1.below hb2) (And.intro (EntsAt.below HB2.out.2.2.2.2 hb2) hF))))
    have HI2 := Lib.hid (IntsAt.below HI.out hb2)
    clear HI
    clear hb2 hF HPK HB2 s0 s1 s2 s3 s4 s5 s6 sl j0 j1 j2 j3 j4 j5 j6 j7 j8 j9 jl
    unfold Wv
    try simp only
    go_upto_region 6 with fail
    refine wp_name (fun X => OS w #[.int .i64 c.id, .int .i64 c.gx, .int .i64 c.gy, .int .i64 c.b.t, .slice a n cap, .int .i64 c.ack, .slice pa pn pc] g5 R.t (.slice ra rn rc) R.es X ∧ Bk X V5.heap.size #[.int .i64 R.t, .slice va vn vc] 26 ∧ EntsAt X (.slice va vn vc) R.es ∧ IntsAt X (.slice oa on oc) (ownM c.b c.id)) ⟨⟨HB.out.1.alloc _, HB.out.2.2.1.alloc _, EntsAt.below HB.out.2.2.2.1 ((Below.refl _ _).alloc (Nat.le_refl _) _), HB.out.2.1.alloc HB.out.2.1.size _⟩, Bk.made _ _ _, EntsAt.below HB.out.2.2.2.2.ents ((Below.refl _ _).alloc (Nat.le_refl _) _), IntsAt.below HI2.out ((Below.refl _ _).alloc (Nat.le_refl _) _)⟩ ?_
    obtain ⟨g9, hg9⟩ : ∃ g, V5.heap.size = g := ⟨_, rfl⟩
    rw [hg9]
    clear hg9 HB HI2
    rintro V6 ⟨hS, B9, hE9, hI⟩
    have SM := Lib.hid (sameW_any ⟨R.t, R.es⟩ ra rn rc va vn vc V6 hS.res hE9)
    unfold Wv at SM
    simp only at SM
    have y0 := hS.b5.cell (v := .int .i64 R.t) 0 rfl
    have y1 := hS.b5.cell (v := .slice ra rn rc) 1 rfl
    have yl := hS.b5.lt
    have z0 := B9.cell (v := .int .i64 R.t) 0 rfl
    have z1 := B9.cell (v := .slice va vn vc) 1 rfl
    have zl := B9.lt
    have HS := Lib.hid (And.intro hS hI)
    clear hS B9 hE9 hI
    go_wp2_with fail
    refine SM.out.mono ?_
    rintro e V7 ⟨rfl, hb2⟩
    have hS := HS.out.1.below hb2
    have hI := IntsAt.below HS.out.2 hb2
    clear hb2 SM HS y0 y1 yl z0 z1 zl
    have y0 := hS.b5.cell (v := .int .i64 R.t) 0 rfl
    have y1 := hS.b5.cell (v := .slice ra rn rc) 1 rfl
    have yl := hS.b5.lt
    have VL := Lib.hid (VAL.out V7 hS.bel ra rn rc hS.res)
    unfold Wv at VL
    have HS := Lib.hid (And.intro hS hI)
    clear hS hI VAL
    go_wp2_with fail
    refine VL.out.mono ?_
    rintro e V8 ⟨rfl, hb2⟩
    have hS := HS.out.1.below hb2
    have hI := IntsAt.below HS.out.2 hb2
    clear hb2 VL HS y0 y1 yl
    obtain rfl : n = rn := by rw [HNL.out, ListAt.len hS.res, HPL.out.2.1, pred_len]
    have y0 := hS.b5.cell (v := .int .i64 R.t) 0 rfl
    have y1 := hS.b5.cell (v := .slice ra n rc) 1 rfl
    have yl := hS.b5.lt
    have s3 := hS.b2.cell (v := .int .i64 c.b.t) 3 rfl
    have s4 := hS.b2.cell (v := .slice a n cap) 4 rfl
    have sl := hS.b2.lt
    have HS := Lib.hid (And.intro hS hI)
    clear hS hI
    go_wp2
    clear y0 y1 yl s3 s4 sl
    go_loopw [12, 102] (fun v12 v102 wr => ∃ i cnt : Nat, (i ≤ n ∧ v102 = .int .i64 i) ∧ (Hid (cntO c.id c.b.es i = cnt) ∧ cnt ≤ i ∧ v12 = .int .i64 cnt) ∧ OS w #[.int .i64 c.id, .int .i64 c.gx, .int .i64 c.gy, .int .i64 c.b.t, .slice a n cap, .int .i64 c.ack, .slice pa pn pc] g5 R.t (.slice ra n rc) R.es wr ∧ IntsAt wr (.slice oa on oc) (ownM c.b c.id)) (fun _ v102 _ => n - (intOf v102).toNat)
    case atStart => exact ⟨0, 0, ⟨by omega, rfl⟩, ⟨Lib.hid (cntO_zero _ _), by omega, rfl⟩, HS.out.1, HS.out.2⟩
    case round =>
      clear HS
      obtain ⟨i, cnt, ⟨hi, rfl⟩, ⟨HC, hci, rfl⟩, hS, hI⟩ := hrel
      have HS := Lib.hid (And.intro hS hI)
      by_cases hlt : i < n
      · obtain ⟨e, he⟩ := at_lt (l := c.b.es) (i := i) (by rw [← HNL.out]; exact hlt)
        rcases HPL.out.2.2.2 with ⟨_, h2⟩ | ⟨b2, o2, cap2, h1, hl2, hc2⟩
        · rw [h2] at he; cases he
        injection h1 with q1 q2 q3
        subst q1
        obtain ⟨x0, xa, xn, xc, x1, hxc⟩ := hc2 i e he
        replace x0 := cell_later hS.bel x0
        replace x1 := cell_later hS.bel x1
        have HCX := Lib.hid hxc
        have HE := Lib.hid he
        obtain ⟨o, ok, hgv, hmb⟩ := get_own HPL.out.1 he c.id
        have GEJ := Lib.hid (fun V (hV : Below w.heap.size w V) => GE.out V hV e.id)
        rw [hgv] at GEJ
        unfold Wv C at GEJ
        clear hgv hc2 hl2 q2 q3 he hxc hS hI
        go_upto_region 17 with fail
        refine wp_name (fun X => OS w #[.int .i64 c.id, .int .i64 c.gx, .int .i64 c.gy, .int .i64 c.b.t, .slice (some ⟨b2, o2, none⟩) n cap, .int .i64 c.ack, .slice pa pn pc] g5 R.t (.slice ra n rc) R.es X ∧ IntsAt X (.slice oa on oc) (ownM c.b c.id) ∧ Bk X wr.heap.size #[.int .i64 e.id, .slice xa xn xc] 43) ⟨HS.out.1.below ((Below.refl _ _).alloc (Nat.le_refl _) _), IntsAt.below HS.out.2 ((Below.refl _ _).alloc (Nat.le_refl _) _), Bk.made _ _ _⟩ ?_
        obtain ⟨g14, hg14⟩ : ∃ g, wr.heap.size = g := ⟨_, rfl⟩
        rw [hg14]
        clear hg14 HS x0 x1
        rintro V17 ⟨hS, hI, B14⟩
        have s3 := hS.b2.cell (v := .int .i64 c.b.t) 3 rfl
        have s4 := hS.b2.cell (v := .slice (some ⟨b2, o2, none⟩) n cap) 4 rfl
        have sl := hS.b2.lt
        have z0 := B14.cell (v := .int .i64 e.id) 0 rfl
        have zl := B14.lt
        have HGE := Lib.hid (GEJ.out V17 hS.bel)
        have HB := Lib.hid (And.intro hS (And.intro hI B14))
        clear hS hI B14 GEJ
        go_wp2_with fail
        refine HGE.out.mono ?_
        rintro e' V18 ⟨rfl, hb2⟩
        have HB2 := Lib.hid (And.intro (HB.out.1.below hb2) (And.intro (IntsAt.below HB.out.2.1 hb2) (HB.out.2.2.below hb2)))
        clear hb2 HGE HB z0 zl s3 s4 sl
        go_upto_region 18 with fail
        refine wp_name (fun X => (OS w #[.int .i64 c.id, .int .i64 c.gx, .int .i64 c.gy, .int .i64 c.b.t, .slice (some ⟨b2, o2, none⟩) n cap, .int .i64 c.ack, .slice pa pn pc] g5 R.t (.slice ra n rc) R.es X ∧ IntsAt X (.slice oa on oc) (ownM c.b c.id) ∧ Bk X g14 #[.int .i64 e.id, .slice xa xn xc] 43) ∧ Bk X V18.heap.size #[.int .u8 o.k, .int .i64 o.a, .int .i64 o.b, .int .i64 o.c, .int .i64 o.d] 48) ⟨⟨HB2.out.1.below ((Below.refl _ _).alloc (Nat.le_refl _) _), IntsAt.below HB2.out.2.1 ((Below.refl _ _).alloc (Nat.le_refl _) _), HB2.out.2.2.below ((Below.refl _ _).alloc (Nat.le_refl _) _)⟩, Bk.made _ _ _⟩ ?_
        clear HB2
        rintro V18b ⟨⟨hS, hI, B14⟩, B15⟩
        have s0 := hS.b2.cell (v := .int .i64 c.id) 0 rfl
        have sl := hS.b2.lt
        have t1 := B15.cell (v := .int .i64 o.a) 1 rfl
        have tl := B15.lt
        have HB := Lib.hid (And.intro hS (And.intro hI B14))
        clear hS hI B14 B15
        cases ok
        · rw [Bool.false_and] at hmb
          have HMB := Lib.hid hmb.symm
          clear hmb
          go_upto_region 19 with fail
          clear s0 sl t1 tl
          have hno := (own_at HPL.out.1 c.id HE.out).2 HMB.out
          rw [HC.out] at hno
          have hon := ListAt.len HB.out.2.1
          by_cases hco : cnt < on
          · obtain ⟨v, hv⟩ := at_lt (l := ownM c.b c.id) (i := cnt) (by rw [← hon]; exact hco)
            have hve := hno v hv
            obtain ⟨b4, o4, hoa, hcl⟩ := ints_cell HB.out.2.1 hv
            subst hoa
            have z0 := cell_regrown (HB.out.2.2.cell (v := .int .i64 e.id) 0 rfl)
            replace hcl := cell_regrown hcl
            have e0 : (v == e.id) = false := by simp; exact hve
            have e1 : decide ((cnt : Int) < (on : Int)) = true := decide_eq_true (by omega)
            have e2 : decide (cnt < on) = true := decide_eq_true (by omega)
            have e4 : (0 : Int) ≤ (cnt : Int) := by omega
            have e5 : (cnt : Int) < (on : Int) := by omega
            have e6 : ((cnt : Int)).toNat = cnt := by omega
            clear hno hon hv hve
            refine wp_region_low2 noPosts 14 (by kernel_rfl) (by kernel_rfl) ?_
            simp only [List.take, List.drop]
            iterate 14 (refine low2_step (fun K hK => ?_); go_simp; first | (refine hK _ ?_; clear hK K) | (apply Exists.intro; refine ⟨fun p => ?_, hK _ ?_⟩; clear hK K))
            refine low2_nil ?_
            intro V19 hC
            have HB9 := Lib.hid (And.intro (HB.out.1.below hC.1) (And.intro (IntsAt.below HB.out.2.1 hC.1) (HB.out.2.2.below hC.1)))
            clear hC HB z0 hcl e0 e1 e2
            obtain ⟨y, hy, hyid, hysame, hyf, hyk⟩ := pred_at HPL.out.1 c.id c.gx c.gy x HE.out
            rw [← HPL.out.2.1] at hy
            rcases HB9.out.1.res with ⟨_, h2⟩ | ⟨b5, o5, cap5, h1, hl5, hc5⟩
            · rw [h2] at hy; cases hy
            injection h1 with q1 q2 q3
            subst q1
            obtain ⟨y0, ya, yn, yc, y1, hY⟩ := hc5 i y hy
            have v1 := HB9.out.1.b5.cell (v := .slice (some ⟨b5, o5, none⟩) n rc) 1 rfl
            have vl := HB9.out.1.b5.lt
            have HY := Lib.hid (And.intro hY (And.intro hyid (And.intro hysame (And.intro hyf hyk))))
            clear hY hyid hysame hyf hyk hc5 hl5 q2 q3 hy
            go_upto_region 24 with fail
            refine wp_name (fun X => (OS w #[.int .i64 c.id, .int .i64 c.gx, .int .i64 c.gy, .int .i64 c.b.t, .slice (some ⟨b2, o2, none⟩) n cap, .int .i64 c.ack, .slice pa pn pc] g5 R.t (.slice (some ⟨b5, o5, none⟩) n rc) R.es X ∧ IntsAt X (.slice (some ⟨b4, o4, none⟩) on oc) (ownM c.b c.id)) ∧ Bk X g14 #[.int .i64 e.id, .slice xa xn xc] 43 ∧ Bk X V19.heap.size #[.int .i64 y.id, .slice ya yn yc] 43 ∧ CompsAt X (.slice ya yn yc) y.cs) ⟨⟨HB9.out.1.below ((Below.refl _ _).alloc (Nat.le_refl _) _), IntsAt.below HB9.out.2.1 ((Below.refl _ _).alloc (Nat.le_refl _) _)⟩, HB9.out.2.2.below ((Below.refl _ _).alloc (Nat.le_refl _) _), Bk.made _ _ _, CompsAt.below HY.out.1 ((Below.refl _ _).alloc (Nat.le_refl _) _)⟩ ?_
            obtain ⟨g18, hg18⟩ : ∃ g, V19.heap.size = g := ⟨_, rfl⟩
            rw [hg18]
            clear hg18 HB9 y0 y1 v1 vl
            rintro V24 ⟨⟨hS, hI⟩, B14, B18, hY⟩
            have u0 := B14.cell (v := .int .i64 e.id) 0 rfl
            have u1 := B14.cell (v := .slice xa xn xc) 1 rfl
            have ul := B14.lt
            have v0 := B18.cell (v := .int .i64 y.id) 0 rfl
            have v1 := B18.cell (v := .slice ya yn yc) 1 rfl
            have vl := B18.lt
            have u0m := fun p : Mutd (fun _ : Nat => False) V24 => cell_mutd u0 (fun e => e) p
            have u1m := fun p : Mutd (fun _ : Nat => False) V24 => cell_mutd u1 (fun e => e) p
            have v0m := fun p : Mutd (fun _ : Nat => False) V24 => cell_mutd v0 (fun e => e) p
            have v1m := fun p : Mutd (fun _ : Nat => False) V24 => cell_mutd v1 (fun e => e) p
            have HXC := Lib.hid (CompsAt.below HCX.out hS.bel)
            have hxn : xn ≤ 1000 := by
              rw [ListAt.len HXC.out]
              exact comps_small HPL.out.1 HE.out
            have hyn : yn ≤ 1000 := by
              rw [ListAt.len hY]
              have := congrArg List.length HY.out.2.2.2.2
              rw [List.length_map, List.length_map] at this
              rw [this]
              exact comps_small HPL.out.1 HE.out
            have HK := Lib.hid (And.intro hS (And.intro hI (And.intro hY (And.intro hxn hyn))))
            clear hS hI hY B14 B18 hxn hyn
            refine wp_region_low3 (postsO e y) (fun _ : Nat => False) [5, 6, 7, 8, 11, 14, 15, 16, 17, 18, 20, 22] noSto 24 (by kernel_rfl) (fun b hb => hb.elim) noSto_inj (by kernel_rfl) ?_
            simp only [List.take, List.drop]
            iterate 5 (refine low3_step noSto_no (fun K hK => ?_); go_simp; first | (refine hK _ ?_; clear hK K) | (apply Exists.intro; refine ⟨fun p => ?_, hK _ ?_⟩; clear hK K))
            refine low3_call 23 #[.agg #[.int .i64 e.id, .slice xa xn xc], .agg #[.int .i64 y.id, .slice ya yn yc]] (aIs (.bool true)) noSto_no (by decide) (by rfl) (fun w => by go_simp) (by simp [postsO]) (fun V hV => by
              have hbV : Below V24.heap.size V24 V := Mut.below hV.1 (Nat.le_refl _) (fun _ _ e => e)
              have hye := HY.out.2.2.1 HMB.out
              have h2 := (CompsAt.below HK.out.2.2.1 hbV)
              rw [hye] at h2
              have h3 := sameE_any e xa xn xc ya yn yc V (CompsAt.below HXC.out hbV) h2
              rw [hye]
              exact h3.mono fun e w' ⟨he, hb⟩ => ⟨_, he, rfl, Mut.of_below hb⟩) ?_
            rintro vs w3 w4 - rfl -
            iterate 5 (refine low3_step noSto_no (fun K hK => ?_); go_simp; first | (refine hK _ ?_; clear hK K) | (apply Exists.intro; refine ⟨fun p => ?_, hK _ ?_⟩; clear hK K))
            refine low3_call 24 #[.agg #[.int .i64 e.id, .slice xa xn xc], .int .u32 2040] (aPart e) noSto_no (by decide) (by rfl) (fun w => by go_simp) (by simp [postsO]) (fun V hV => by
              have hbV : Below V24.heap.size V24 V := Mut.below hV.1 (Nat.le_refl _) (fun _ _ e => e)
              exact (part_any e xa xn xc 2040 V (CompsAt.below HXC.out hbV) HK.out.2.2.2.1).mono fun r w' ⟨a1, n1, c1, he, hF, hb⟩ => by
                exact ⟨_, he, ⟨a1, n1, c1, rfl, hF, hb⟩, Mut.of_below hb⟩) ?_
            rintro vp w5 w6 - ⟨p1, p2, p3, rfl, hP1, -⟩ -
            iterate 2 (refine low3_step noSto_no (fun K hK => ?_); go_simp; first | (refine hK _ ?_; clear hK K) | (apply Exists.intro; refine ⟨fun p => ?_, hK _ ?_⟩; clear hK K))
            refine low3_call 24 #[.agg #[.int .i64 y.id, .slice ya yn yc], .int .u32 2040] (aPart e) noSto_no (by decide) (by rfl) (fun w => by go_simp) (by simp [postsO]) (fun V hV => by
              have hbV : Below V24.heap.size V24 V := Mut.below hV.1 (Nat.le_refl _) (fun _ _ e => e)
              exact (part_any y ya yn yc 2040 V (CompsAt.below HK.out.2.2.1 hbV) HK.out.2.2.2.2).mono fun r w' ⟨a1, n1, c1, he, hF, hb⟩ => by
                rw [HY.out.2.2.2.1] at hF
                exact ⟨_, he, ⟨a1, n1, c1, by rw [HY.out.2.1], hF, hb⟩, Mut.of_below hb⟩) ?_
            rintro vq w7 w8 hV7 ⟨r1, r2, r3, rfl, hP2, hB78⟩ -
            have h67 : ∀ b, w5.heap.size ≤ b → b < w6.heap.size → w7.heap[b]? = w6.heap[b]? := fun b h1 h2 => (hV7.2.2 (by decide)).1 b (.inr (.inr ⟨h1, h2⟩))
            clear hV7
            refine low3_call 23 #[.agg #[.int .i64 e.id, .slice p1 p2 p3], .agg #[.int .i64 e.id, .slice r1 r2 r3]] (aIs (.bool true)) noSto_no (by decide) (by rfl) (fun w => by go_simp) (by simp [postsO]) (fun V hV => by
              have hQ2 := hP2.agree (w' := V) (fun b h1 h2 => (hV.2.2 (by decide)).1 b (.inr (.inr ⟨h1, h2⟩)))
              have hQ1 := hP1.agree (w' := V) (fun b h1 h2 => by
                have e1 := h67 b h1 h2
                have l7 : b < w7.heap.size := by
                  rw [Array.getElem?_eq_getElem h2] at e1
                  exact (Array.getElem?_eq_some_iff.1 e1).1
                rw [(hV.2.2 (by decide)).1 b (.inr (.inl (.inr ⟨h1, h2⟩))), hB78.block b l7, e1])
              exact (sameE_any ⟨e.id, e.cs.filter (inM 2040)⟩ p1 p2 p3 r1 r2 r3 V hQ1.comps hQ2.comps).mono fun e w' ⟨he, hb⟩ => ⟨_, he, rfl, Mut.of_below hb⟩) ?_
            rintro vs2 w9 w10 - rfl -
            clear hP1 hP2 h67 hB78
            iterate 4 (refine low3_step noSto_no (fun K hK => ?_); go_simp; first | (refine hK _ ?_; clear hK K) | (apply Exists.intro; refine ⟨fun p => ?_, hK _ ?_⟩; clear hK K))
            refine low3_call 25 #[.agg #[.int .i64 e.id, .slice xa xn xc]] (aIs (.int .u32 (maskM e.cs))) noSto_no (by decide) (by rfl) (fun w => by go_simp) (by simp [postsO]) (fun V hV => by
              have hbV : Below V24.heap.size V24 V := Mut.below hV.1 (Nat.le_refl _) (fun _ _ e => e)
              exact (mask_any e xa xn xc V (CompsAt.below HXC.out hbV)).mono fun r w' ⟨he, hb⟩ => by
                exact ⟨_, he, rfl, Mut.of_below hb⟩) ?_
            rintro vm11 w11 w12 - rfl -
            iterate 1 (refine low3_step noSto_no (fun K hK => ?_); go_simp; first | (refine hK _ ?_; clear hK K) | (apply Exists.intro; refine ⟨fun p => ?_, hK _ ?_⟩; clear hK K))
            refine low3_call 25 #[.agg #[.int .i64 y.id, .slice ya yn yc]] (aIs (.int .u32 (maskM e.cs))) noSto_no (by decide) (by rfl) (fun w => by go_simp) (by simp [postsO]) (fun V hV => by
              have hbV : Below V24.heap.size V24 V := Mut.below hV.1 (Nat.le_refl _) (fun _ _ e => e)
              exact (mask_any y ya yn yc V (CompsAt.below HK.out.2.2.1 hbV)).mono fun r w' ⟨he, hb⟩ => by
                rw [maskM_kinds HY.out.2.2.2.2] at he
                exact ⟨_, he, rfl, Mut.of_below hb⟩) ?_
            rintro vm13 w13 w14 - rfl -
            iterate 1 (refine low3_step noSto_no (fun K hK => ?_); go_simp; first | (refine hK _ ?_; clear hK K) | (apply Exists.intro; refine ⟨fun p => ?_, hK _ ?_⟩; clear hK K))
            refine low3_nil ?_
            intro V25 hC
            have hfr : Below V24.heap.size V24 V25 := hC.fr.below (Nat.le_refl _) (fun _ _ e => e)
            have HS := Lib.hid (And.intro (HK.out.1.below hfr) (IntsAt.below HK.out.2.1 hfr))
            clear hC hfr HK HXC u0 u1 ul v0 v1 vl u0m u1m v0m v1m
            have hst := cntO_step (id := c.id) HE.out
            rw [HMB.out, HC.out] at hst
            simp only [if_true, Bool.false_eq_true, if_false] at hst
            have HST := Lib.hid hst
            clear hst
            go_wp2
            go_roundw
            case rel => exact ⟨i + 1, cnt, ⟨by omega, by go_num⟩, ⟨HST, by omega, by first | rfl | (rw [wc])⟩, HS.out.1, HS.out.2⟩
            case measure => simp [intOf]; omega
          · have z0 := cell_regrown (HB.out.2.2.cell (v := .int .i64 e.id) 0 rfl)
            have e1 : decide ((cnt : Int) < (on : Int)) = false := decide_eq_false (by omega)
            have e2 : decide (cnt < on) = false := decide_eq_false hco
            clear hno hon
            refine wp_region_low2 noPosts 14 (by kernel_rfl) (by kernel_rfl) ?_
            simp only [List.take, List.drop]
            iterate 14 (refine low2_step (fun K hK => ?_); go_simp; first | (refine hK _ ?_; clear hK K) | (apply Exists.intro; refine ⟨fun p => ?_, hK _ ?_⟩; clear hK K))
            refine low2_nil ?_
            intro V19 hC
            have HB9 := Lib.hid (And.intro (HB.out.1.below hC.1) (And.intro (IntsAt.below HB.out.2.1 hC.1) (HB.out.2.2.below hC.1)))
            clear hC HB z0 e1 e2
            obtain ⟨y, hy, hyid, hysame, hyf, hyk⟩ := pred_at HPL.out.1 c.id c.gx c.gy x HE.out
            rw [← HPL.out.2.1] at hy
            rcases HB9.out.1.res with ⟨_, h2⟩ | ⟨b5, o5, cap5, h1, hl5, hc5⟩
            · rw [h2] at hy; cases hy
            injection h1 with q1 q2 q3
            subst q1
            obtain ⟨y0, ya, yn, yc, y1, hY⟩ := hc5 i y hy
            have v1 := HB9.out.1.b5.cell (v := .slice (some ⟨b5, o5, none⟩) n rc) 1 rfl
            have vl := HB9.out.1.b5.lt
            have HY := Lib.hid (And.intro hY (And.intro hyid (And.intro hysame (And.intro hyf hyk))))
            clear hY hyid hysame hyf hyk hc5 hl5 q2 q3 hy
            go_upto_region 24 with fail
            refine wp_name (fun X => (OS w #[.int .i64 c.id, .int .i64 c.gx, .int .i64 c.gy, .int .i64 c.b.t, .slice (some ⟨b2, o2, none⟩) n cap, .int .i64 c.ack, .slice pa pn pc] g5 R.t (.slice (some ⟨b5, o5, none⟩) n rc) R.es X ∧ IntsAt X (.slice oa on oc) (ownM c.b c.id)) ∧ Bk X g14 #[.int .i64 e.id, .slice xa xn xc] 43 ∧ Bk X V19.heap.size #[.int .i64 y.id, .slice ya yn yc] 43 ∧ CompsAt X (.slice ya yn yc) y.cs) ⟨⟨HB9.out.1.below ((Below.refl _ _).alloc (Nat.le_refl _) _), IntsAt.below HB9.out.2.1 ((Below.refl _ _).alloc (Nat.le_refl _) _)⟩, HB9.out.2.2.below ((Below.refl _ _).alloc (Nat.le_refl _) _), Bk.made _ _ _, CompsAt.below HY.out.1 ((Below.refl _ _).alloc (Nat.le_refl _) _)⟩ ?_
            obtain ⟨g18, hg18⟩ : ∃ g, V19.heap.size = g := ⟨_, rfl⟩
            rw [hg18]
            clear hg18 HB9 y0 y1 v1 vl
            rintro V24 ⟨⟨hS, hI⟩, B14, B18, hY⟩
            have u0 := B14.cell (v := .int .i64 e.id) 0 rfl
            have u1 := B14.cell (v := .slice xa xn xc) 1 rfl
            have ul := B14.lt
            have v0 := B18.cell (v := .int .i64 y.id) 0 rfl
            have v1 := B18.cell (v := .slice ya yn yc) 1 rfl
            have vl := B18.lt
            have u0m := fun p : Mutd (fun _ : Nat => False) V24 => cell_mutd u0 (fun e => e) p
            have u1m := fun p : Mutd (fun _ : Nat => False) V24 => cell_mutd u1 (fun e => e) p
            have v0m := fun p : Mutd (fun _ : Nat => False) V24 => cell_mutd v0 (fun e => e) p
            have v1m := fun p : Mutd (fun _ : Nat => False) V24 => cell_mutd v1 (fun e => e) p
            have HXC := Lib.hid (CompsAt.below HCX.out hS.bel)
            have hxn : xn ≤ 1000 := by
              rw [ListAt.len HXC.out]
              exact comps_small HPL.out.1 HE.out
            have hyn : yn ≤ 1000 := by
              rw [ListAt.len hY]
              have := congrArg List.length HY.out.2.2.2.2
              rw [List.length_map, List.length_map] at this
              rw [this]
              exact comps_small HPL.out.1 HE.out
            have HK := Lib.hid (And.intro hS (And.intro hI (And.intro hY (And.intro hxn hyn))))
            clear hS hI hY B14 B18 hxn hyn
            refine wp_region_low3 (postsO e y) (fun _ : Nat => False) [5, 6, 7, 8, 11, 14, 15, 16, 17, 18, 20, 22] noSto 24 (by kernel_rfl) (fun b hb => hb.elim) noSto_inj (by kernel_rfl) ?_
            simp only [List.take, List.drop]
            iterate 5 (refine low3_step noSto_no (fun K hK => ?_); go_simp; first | (refine hK _ ?_; clear hK K) | (apply Exists.intro; refine ⟨fun p => ?_, hK _ ?_⟩; clear hK K))
            refine low3_call 23 #[.agg #[.int .i64 e.id, .slice xa xn xc], .agg #[.int .i64 y.id, .slice ya yn yc]] (aIs (.bool true)) noSto_no (by decide) (by rfl) (fun w => by go_simp) (by simp [postsO]) (fun V hV => by
              have hbV : Below V24.heap.size V24 V := Mut.below hV.1 (Nat.le_refl _) (fun _ _ e => e)
              have hye := HY.out.2.2.1 HMB.out
              have h2 := (CompsAt.below HK.out.2.2.1 hbV)
              rw [hye] at h2
              have h3 := sameE_any e xa xn xc ya yn yc V (CompsAt.below HXC.out hbV) h2
              rw [hye]
              exact h3.mono fun e w' ⟨he, hb⟩ => ⟨_, he, rfl, Mut.of_below hb⟩) ?_
            rintro vs w3 w4 - rfl -
            iterate 5 (refine low3_step noSto_no (fun K hK => ?_); go_simp; first | (refine hK _ ?_; clear hK K) | (apply Exists.intro; refine ⟨fun p => ?_, hK _ ?_⟩; clear hK K))
            refine low3_call 24 #[.agg #[.int .i64 e.id, .slice xa xn xc], .int .u32 2040] (aPart e) noSto_no (by decide) (by rfl) (fun w => by go_simp) (by simp [postsO]) (fun V hV => by
              have hbV : Below V24.heap.size V24 V := Mut.below hV.1 (Nat.le_refl _) (fun _ _ e => e)
              exact (part_any e xa xn xc 2040 V (CompsAt.below HXC.out hbV) HK.out.2.2.2.1).mono fun r w' ⟨a1, n1, c1, he, hF, hb⟩ => by
                exact ⟨_, he, ⟨a1, n1, c1, rfl, hF, hb⟩, Mut.of_below hb⟩) ?_
            rintro vp w5 w6 - ⟨p1, p2, p3, rfl, hP1, -⟩ -
            iterate 2 (refine low3_step noSto_no (fun K hK => ?_); go_simp; first | (refine hK _ ?_; clear hK K) | (apply Exists.intro; refine ⟨fun p => ?_, hK _ ?_⟩; clear hK K))
            refine low3_call 24 #[.agg #[.int .i64 y.id, .slice ya yn yc], .int .u32 2040] (aPart e) noSto_no (by decide) (by rfl) (fun w => by go_simp) (by simp [postsO]) (fun V hV => by
              have hbV : Below V24.heap.size V24 V := Mut.below hV.1 (Nat.le_refl _) (fun _ _ e => e)
              exact (part_any y ya yn yc 2040 V (CompsAt.below HK.out.2.2.1 hbV) HK.out.2.2.2.2).mono fun r w' ⟨a1, n1, c1, he, hF, hb⟩ => by
                rw [HY.out.2.2.2.1] at hF
                exact ⟨_, he, ⟨a1, n1, c1, by rw [HY.out.2.1], hF, hb⟩, Mut.of_below hb⟩) ?_
            rintro vq w7 w8 hV7 ⟨r1, r2, r3, rfl, hP2, hB78⟩ -
            have h67 : ∀ b, w5.heap.size ≤ b → b < w6.heap.size → w7.heap[b]? = w6.heap[b]? := fun b h1 h2 => (hV7.2.2 (by decide)).1 b (.inr (.inr ⟨h1, h2⟩))
            clear hV7
            refine low3_call 23 #[.agg #[.int .i64 e.id, .slice p1 p2 p3], .agg #[.int .i64 e.id, .slice r1 r2 r3]] (aIs (.bool true)) noSto_no (by decide) (by rfl) (fun w => by go_simp) (by simp [postsO]) (fun V hV => by
              have hQ2 := hP2.agree (w' := V) (fun b h1 h2 => (hV.2.2 (by decide)).1 b (.inr (.inr ⟨h1, h2⟩)))
              have hQ1 := hP1.agree (w' := V) (fun b h1 h2 => by
                have e1 := h67 b h1 h2
                have l7 : b < w7.heap.size := by
                  rw [Array.getElem?_eq_getElem h2] at e1
                  exact (Array.getElem?_eq_some_iff.1 e1).1
                rw [(hV.2.2 (by decide)).1 b (.inr (.inl (.inr ⟨h1, h2⟩))), hB78.block b l7, e1])
              exact (sameE_any ⟨e.id, e.cs.filter (inM 2040)⟩ p1 p2 p3 r1 r2 r3 V hQ1.comps hQ2.comps).mono fun e w' ⟨he, hb⟩ => ⟨_, he, rfl, Mut.of_below hb⟩) ?_
            rintro vs2 w9 w10 - rfl -
            clear hP1 hP2 h67 hB78
            iterate 4 (refine low3_step noSto_no (fun K hK => ?_); go_simp; first | (refine hK _ ?_; clear hK K) | (apply Exists.intro; refine ⟨fun p => ?_, hK _ ?_⟩; clear hK K))
            refine low3_call 25 #[.agg #[.int .i64 e.id, .slice xa xn xc]] (aIs (.int .u32 (maskM e.cs))) noSto_no (by decide) (by rfl) (fun w => by go_simp) (by simp [postsO]) (fun V hV => by
              have hbV : Below V24.heap.size V24 V := Mut.below hV.1 (Nat.le_refl _) (fun _ _ e => e)
              exact (mask_any e xa xn xc V (CompsAt.below HXC.out hbV)).mono fun r w' ⟨he, hb⟩ => by
                exact ⟨_, he, rfl, Mut.of_below hb⟩) ?_
            rintro vm11 w11 w12 - rfl -
            iterate 1 (refine low3_step noSto_no (fun K hK => ?_); go_simp; first | (refine hK _ ?_; clear hK K) | (apply Exists.intro; refine ⟨fun p => ?_, hK _ ?_⟩; clear hK K))
            refine low3_call 25 #[.agg #[.int .i64 y.id, .slice ya yn yc]] (aIs (.int .u32 (maskM e.cs))) noSto_no (by decide) (by rfl) (fun w => by go_simp) (by simp [postsO]) (fun V hV => by
              have hbV : Below V24.heap.size V24 V := Mut.below hV.1 (Nat.le_refl _) (fun _ _ e => e)
              exact (mask_any y ya yn yc V (CompsAt.below HK.out.2.2.1 hbV)).mono fun r w' ⟨he, hb⟩ => by
                rw [maskM_kinds HY.out.2.2.2.2] at he
                exact ⟨_, he, rfl, Mut.of_below hb⟩) ?_
            rintro vm13 w13 w14 - rfl -
            iterate 1 (refine low3_step noSto_no (fun K hK => ?_); go_simp; first | (refine hK _ ?_; clear hK K) | (apply Exists.intro; refine ⟨fun p => ?_, hK _ ?_⟩; clear hK K))
            refine low3_nil ?_
            intro V25 hC
            have hfr : Below V24.heap.size V24 V25 := hC.fr.below (Nat.le_refl _) (fun _ _ e => e)
            have HS := Lib.hid (And.intro (HK.out.1.below hfr) (IntsAt.below HK.out.2.1 hfr))
            clear hC hfr HK HXC u0 u1 ul v0 v1 vl u0m u1m v0m v1m
            have hst := cntO_step (id := c.id) HE.out
            rw [HMB.out, HC.out] at hst
            simp only [if_true, Bool.false_eq_true, if_false] at hst
            have HST := Lib.hid hst
            clear hst
            go_wp2
            go_roundw
            case rel => exact ⟨i + 1, cnt, ⟨by omega, by go_num⟩, ⟨HST, by omega, by first | rfl | (rw [wc])⟩, HS.out.1, HS.out.2⟩
            case measure => simp [intOf]; omega
        · rw [Bool.true_and] at hmb
          by_cases hoa : o.a = c.id
          · rw [decide_eq_true hoa] at hmb
            have HMB := Lib.hid hmb.symm
            have d1 : (o.a == c.id) = true := by simp [hoa]
            clear hmb hoa
            go_upto_region 19 with fail
            clear s0 sl t1 tl d1
            have hoat := (own_at HPL.out.1 c.id HE.out).1 HMB.out
            rw [HC.out] at hoat
            obtain ⟨b4, o4, hoa, hcl⟩ := ints_cell HB.out.2.1 (hoat)
            have hco : cnt < on := by
              rw [ListAt.len HB.out.2.1]
              exact (List.getElem?_eq_some_iff.1 (hoat)).1
            subst hoa
            have z0 := cell_regrown (HB.out.2.2.cell (v := .int .i64 e.id) 0 rfl)
            replace hcl := cell_regrown hcl
            have e1 : decide ((cnt : Int) < (on : Int)) = true := decide_eq_true (by omega)
            have e2 : decide (cnt < on) = true := decide_eq_true (by omega)
            have e4 : (0 : Int) ≤ (cnt : Int) := by omega
            have e5 : (cnt : Int) < (on : Int) := by omega
            have e6 : ((cnt : Int)).toNat = cnt := by omega
            clear hoat
            refine wp_region_low2 noPosts 14 (by kernel_rfl) (by kernel_rfl) ?_
            simp only [List.take, List.drop]
            iterate 14 (refine low2_step (fun K hK => ?_); go_simp; first | (refine hK _ ?_; clear hK K) | (apply Exists.intro; refine ⟨fun p => ?_, hK _ ?_⟩; clear hK K))
            refine low2_nil ?_
            intro V19 hC
            have HB9 := Lib.hid (And.intro (HB.out.1.below hC.1) (And.intro (IntsAt.below HB.out.2.1 hC.1) (HB.out.2.2.below hC.1)))
            clear hC HB z0 hcl e1 e2
            have wc : IntKind.i64.wrap ((cnt : Int) + 1) = ((cnt + 1 : Nat) : Int) := by rw [IntKind.wrap_i64]; omega
            obtain ⟨y, hy, hyid, hysame, hyf, hyk⟩ := pred_at HPL.out.1 c.id c.gx c.gy x HE.out
            rw [← HPL.out.2.1] at hy
            rcases HB9.out.1.res with ⟨_, h2⟩ | ⟨b5, o5, cap5, h1, hl5, hc5⟩
            · rw [h2] at hy; cases hy
            injection h1 with q1 q2 q3
            subst q1
            obtain ⟨y0, ya, yn, yc, y1, hY⟩ := hc5 i y hy
            have v1 := HB9.out.1.b5.cell (v := .slice (some ⟨b5, o5, none⟩) n rc) 1 rfl
            have vl := HB9.out.1.b5.lt
            have HY := Lib.hid (And.intro hY (And.intro hyid (And.intro hysame (And.intro hyf hyk))))
            clear hY hyid hysame hyf hyk hc5 hl5 q2 q3 hy
            go_upto_region 24 with fail
            refine wp_name (fun X => (OS w #[.int .i64 c.id, .int .i64 c.gx, .int .i64 c.gy, .int .i64 c.b.t, .slice (some ⟨b2, o2, none⟩) n cap, .int .i64 c.ack, .slice pa pn pc] g5 R.t (.slice (some ⟨b5, o5, none⟩) n rc) R.es X ∧ IntsAt X (.slice (some ⟨b4, o4, none⟩) on oc) (ownM c.b c.id)) ∧ Bk X g14 #[.int .i64 e.id, .slice xa xn xc] 43 ∧ Bk X V19.heap.size #[.int .i64 y.id, .slice ya yn yc] 43 ∧ CompsAt X (.slice ya yn yc) y.cs) ⟨⟨HB9.out.1.below ((Below.refl _ _).alloc (Nat.le_refl _) _), IntsAt.below HB9.out.2.1 ((Below.refl _ _).alloc (Nat.le_refl _) _)⟩, HB9.out.2.2.below ((Below.refl _ _).alloc (Nat.le_refl _) _), Bk.made _ _ _, CompsAt.below HY.out.1 ((Below.refl _ _).alloc (Nat.le_refl _) _)⟩ ?_
            obtain ⟨g18, hg18⟩ : ∃ g, V19.heap.size = g := ⟨_, rfl⟩
            rw [hg18]
            clear hg18 HB9 y0 y1 v1 vl
            rintro V24 ⟨⟨hS, hI⟩, B14, B18, hY⟩
            have u0 := B14.cell (v := .int .i64 e.id) 0 rfl
            have u1 := B14.cell (v := .slice xa xn xc) 1 rfl
            have ul := B14.lt
            have v0 := B18.cell (v := .int .i64 y.id) 0 rfl
            have v1 := B18.cell (v := .slice ya yn yc) 1 rfl
            have vl := B18.lt
            have u0m := fun p : Mutd (fun _ : Nat => False) V24 => cell_mutd u0 (fun e => e) p
            have u1m := fun p : Mutd (fun _ : Nat => False) V24 => cell_mutd u1 (fun e => e) p
            have v0m := fun p : Mutd (fun _ : Nat => False) V24 => cell_mutd v0 (fun e => e) p
            have v1m := fun p : Mutd (fun _ : Nat => False) V24 => cell_mutd v1 (fun e => e) p
            have HXC := Lib.hid (CompsAt.below HCX.out hS.bel)
            have hxn : xn ≤ 1000 := by
              rw [ListAt.len HXC.out]
              exact comps_small HPL.out.1 HE.out
            have hyn : yn ≤ 1000 := by
              rw [ListAt.len hY]
              have := congrArg List.length HY.out.2.2.2.2
              rw [List.length_map, List.length_map] at this
              rw [this]
              exact comps_small HPL.out.1 HE.out
            have HK := Lib.hid (And.intro hS (And.intro hI (And.intro hY (And.intro hxn hyn))))
            clear hS hI hY B14 B18 hxn hyn
            refine wp_region_low3 (postsO e y) (fun _ : Nat => False) [11, 14, 15, 16, 17, 18, 20, 22] noSto 24 (by kernel_rfl) (fun b hb => hb.elim) noSto_inj (by kernel_rfl) ?_
            simp only [List.take, List.drop]
            iterate 11 (refine low3_step noSto_no (fun K hK => ?_); go_simp; first | (refine hK _ ?_; clear hK K) | (apply Exists.intro; refine ⟨fun p => ?_, hK _ ?_⟩; clear hK K))
            refine low3_call 24 #[.agg #[.int .i64 e.id, .slice xa xn xc], .int .u32 2040] (aPart e) noSto_no (by decide) (by rfl) (fun w => by go_simp) (by simp [postsO]) (fun V hV => by
              have hbV : Below V24.heap.size V24 V := Mut.below hV.1 (Nat.le_refl _) (fun _ _ e => e)
              exact (part_any e xa xn xc 2040 V (CompsAt.below HXC.out hbV) HK.out.2.2.2.1).mono fun r w' ⟨a1, n1, c1, he, hF, hb⟩ => by
                exact ⟨_, he, ⟨a1, n1, c1, rfl, hF, hb⟩, Mut.of_below hb⟩) ?_
            rintro vp w5 w6 - ⟨p1, p2, p3, rfl, hP1, -⟩ -
            iterate 2 (refine low3_step noSto_no (fun K hK => ?_); go_simp; first | (refine hK _ ?_; clear hK K) | (apply Exists.intro; refine ⟨fun p => ?_, hK _ ?_⟩; clear hK K))
            refine low3_call 24 #[.agg #[.int .i64 y.id, .slice ya yn yc], .int .u32 2040] (aPart e) noSto_no (by decide) (by rfl) (fun w => by go_simp) (by simp [postsO]) (fun V hV => by
              have hbV : Below V24.heap.size V24 V := Mut.below hV.1 (Nat.le_refl _) (fun _ _ e => e)
              exact (part_any y ya yn yc 2040 V (CompsAt.below HK.out.2.2.1 hbV) HK.out.2.2.2.2).mono fun r w' ⟨a1, n1, c1, he, hF, hb⟩ => by
                rw [HY.out.2.2.2.1] at hF
                exact ⟨_, he, ⟨a1, n1, c1, by rw [HY.out.2.1], hF, hb⟩, Mut.of_below hb⟩) ?_
            rintro vq w7 w8 hV7 ⟨r1, r2, r3, rfl, hP2, hB78⟩ -
            have h67 : ∀ b, w5.heap.size ≤ b → b < w6.heap.size → w7.heap[b]? = w6.heap[b]? := fun b h1 h2 => (hV7.2.2 (by decide)).1 b (.inr (.inr ⟨h1, h2⟩))
            clear hV7
            refine low3_call 23 #[.agg #[.int .i64 e.id, .slice p1 p2 p3], .agg #[.int .i64 e.id, .slice r1 r2 r3]] (aIs (.bool true)) noSto_no (by decide) (by rfl) (fun w => by go_simp) (by simp [postsO]) (fun V hV => by
              have hQ2 := hP2.agree (w' := V) (fun b h1 h2 => (hV.2.2 (by decide)).1 b (.inr (.inr ⟨h1, h2⟩)))
              have hQ1 := hP1.agree (w' := V) (fun b h1 h2 => by
                have e1 := h67 b h1 h2
                have l7 : b < w7.heap.size := by
                  rw [Array.getElem?_eq_getElem h2] at e1
                  exact (Array.getElem?_eq_some_iff.1 e1).1
                rw [(hV.2.2 (by decide)).1 b (.inr (.inl (.inr ⟨h1, h2⟩))), hB78.block b l7, e1])
              exact (sameE_any ⟨e.id, e.cs.filter (inM 2040)⟩ p1 p2 p3 r1 r2 r3 V hQ1.comps hQ2.comps).mono fun e w' ⟨he, hb⟩ => ⟨_, he, rfl, Mut.of_below hb⟩) ?_
            rintro vs2 w9 w10 - rfl -
            clear hP1 hP2 h67 hB78
            iterate 4 (refine low3_step noSto_no (fun K hK => ?_); go_simp; first | (refine hK _ ?_; clear hK K) | (apply Exists.intro; refine ⟨fun p => ?_, hK _ ?_⟩; clear hK K))
            refine low3_call 25 #[.agg #[.int .i64 e.id, .slice xa xn xc]] (aIs (.int .u32 (maskM e.cs))) noSto_no (by decide) (by rfl) (fun w => by go_simp) (by simp [postsO]) (fun V hV => by
              have hbV : Below V24.heap.size V24 V := Mut.below hV.1 (Nat.le_refl _) (fun _ _ e => e)
              exact (mask_any e xa xn xc V (CompsAt.below HXC.out hbV)).mono fun r w' ⟨he, hb⟩ => by
                exact ⟨_, he, rfl, Mut.of_below hb⟩) ?_
            rintro vm11 w11 w12 - rfl -
            iterate 1 (refine low3_step noSto_no (fun K hK => ?_); go_simp; first | (refine hK _ ?_; clear hK K) | (apply Exists.intro; refine ⟨fun p => ?_, hK _ ?_⟩; clear hK K))
            refine low3_call 25 #[.agg #[.int .i64 y.id, .slice ya yn yc]] (aIs (.int .u32 (maskM e.cs))) noSto_no (by decide) (by rfl) (fun w => by go_simp) (by simp [postsO]) (fun V hV => by
              have hbV : Below V24.heap.size V24 V := Mut.below hV.1 (Nat.le_refl _) (fun _ _ e => e)
              exact (mask_any y ya yn yc V (CompsAt.below HK.out.2.2.1 hbV)).mono fun r w' ⟨he, hb⟩ => by
                rw [maskM_kinds HY.out.2.2.2.2] at he
                exact ⟨_, he, rfl, Mut.of_below hb⟩) ?_
            rintro vm13 w13 w14 - rfl -
            iterate 1 (refine low3_step noSto_no (fun K hK => ?_); go_simp; first | (refine hK _ ?_; clear hK K) | (apply Exists.intro; refine ⟨fun p => ?_, hK _ ?_⟩; clear hK K))
            refine low3_nil ?_
            intro V25 hC
            have hfr : Below V24.heap.size V24 V25 := hC.fr.below (Nat.le_refl _) (fun _ _ e => e)
            have HS := Lib.hid (And.intro (HK.out.1.below hfr) (IntsAt.below HK.out.2.1 hfr))
            clear hC hfr HK HXC u0 u1 ul v0 v1 vl u0m u1m v0m v1m
            have hst := cntO_step (id := c.id) HE.out
            rw [HMB.out, HC.out] at hst
            simp only [if_true, Bool.false_eq_true, if_false] at hst
            have HST := Lib.hid hst
            clear hst
            go_wp2
            go_roundw
            case rel => exact ⟨i + 1, cnt + 1, ⟨by omega, by go_num⟩, ⟨HST, by omega, by first | rfl | (rw [wc])⟩, HS.out.1, HS.out.2⟩
            case measure => simp [intOf]; omega
          · rw [decide_eq_false hoa] at hmb
            have HMB := Lib.hid hmb.symm
            have d1 : (o.a == c.id) = false := by simp [hoa]
            clear hmb hoa
            go_upto_region 19 with fail
            clear s0 sl t1 tl d1
            have hno := (own_at HPL.out.1 c.id HE.out).2 HMB.out
            rw [HC.out] at hno
            have hon := ListAt.len HB.out.2.1
            by_cases hco : cnt < on
            · obtain ⟨v, hv⟩ := at_lt (l := ownM c.b c.id) (i := cnt) (by rw [← hon]; exact hco)
              have hve := hno v hv
              obtain ⟨b4, o4, hoa, hcl⟩ := ints_cell HB.out.2.1 hv
              subst hoa
              have z0 := cell_regrown (HB.out.2.2.cell (v := .int .i64 e.id) 0 rfl)
              replace hcl := cell_regrown hcl
              have e0 : (v == e.id) = false := by simp; exact hve
              have e1 : decide ((cnt : Int) < (on : Int)) = true := decide_eq_true (by omega)
              have e2 : decide (cnt < on) = true := decide_eq_true (by omega)
              have e4 : (0 : Int) ≤ (cnt : Int) := by omega
              have e5 : (cnt : Int) < (on : Int) := by omega
              have e6 : ((cnt : Int)).toNat = cnt := by omega
              clear hno hon hv hve
              refine wp_region_low2 noPosts 14 (by kernel_rfl) (by kernel_rfl) ?_
              simp only [List.take, List.drop]
              iterate 14 (refine low2_step (fun K hK => ?_); go_simp; first | (refine hK _ ?_; clear hK K) | (apply Exists.intro; refine ⟨fun p => ?_, hK _ ?_⟩; clear hK K))
              refine low2_nil ?_
              intro V19 hC
              have HB9 := Lib.hid (And.intro (HB.out.1.below hC.1) (And.intro (IntsAt.below HB.out.2.1 hC.1) (HB.out.2.2.below hC.1)))
              clear hC HB z0 hcl e0 e1 e2
              obtain ⟨y, hy, hyid, hysame, hyf, hyk⟩ := pred_at HPL.out.1 c.id c.gx c.gy x HE.out
              rw [← HPL.out.2.1] at hy
              rcases HB9.out.1.res with ⟨_, h2⟩ | ⟨b5, o5, cap5, h1, hl5, hc5⟩
              · rw [h2] at hy; cases hy
              injection h1 with q1 q2 q3
              subst q1
              obtain ⟨y0, ya, yn, yc, y1, hY⟩ := hc5 i y hy
              have v1 := HB9.out.1.b5.cell (v := .slice (some ⟨b5, o5, none⟩) n rc) 1 rfl
              have vl := HB9.out.1.b5.lt
              have HY := Lib.hid (And.intro hY (And.intro hyid (And.intro hysame (And.intro hyf hyk))))
              clear hY hyid hysame hyf hyk hc5 hl5 q2 q3 hy
              go_upto_region 24 with fail
              refine wp_name (fun X => (OS w #[.int .i64 c.id, .int .i64 c.gx, .int .i64 c.gy, .int .i64 c.b.t, .slice (some ⟨b2, o2, none⟩) n cap, .int .i64 c.ack, .slice pa pn pc] g5 R.t (.slice (some ⟨b5, o5, none⟩) n rc) R.es X ∧ IntsAt X (.slice (some ⟨b4, o4, none⟩) on oc) (ownM c.b c.id)) ∧ Bk X g14 #[.int .i64 e.id, .slice xa xn xc] 43 ∧ Bk X V19.heap.size #[.int .i64 y.id, .slice ya yn yc] 43 ∧ CompsAt X (.slice ya yn yc) y.cs) ⟨⟨HB9.out.1.below ((Below.refl _ _).alloc (Nat.le_refl _) _), IntsAt.below HB9.out.2.1 ((Below.refl _ _).alloc (Nat.le_refl _) _)⟩, HB9.out.2.2.below ((Below.refl _ _).alloc (Nat.le_refl _) _), Bk.made _ _ _, CompsAt.below HY.out.1 ((Below.refl _ _).alloc (Nat.le_refl _) _)⟩ ?_
              obtain ⟨g18, hg18⟩ : ∃ g, V19.heap.size = g := ⟨_, rfl⟩
              rw [hg18]
              clear hg18 HB9 y0 y1 v1 vl
              rintro V24 ⟨⟨hS, hI⟩, B14, B18, hY⟩
              have u0 := B14.cell (v := .int .i64 e.id) 0 rfl
              have u1 := B14.cell (v := .slice xa xn xc) 1 rfl
              have ul := B14.lt
              have v0 := B18.cell (v := .int .i64 y.id) 0 rfl
              have v1 := B18.cell (v := .slice ya yn yc) 1 rfl
              have vl := B18.lt
              have u0m := fun p : Mutd (fun _ : Nat => False) V24 => cell_mutd u0 (fun e => e) p
              have u1m := fun p : Mutd (fun _ : Nat => False) V24 => cell_mutd u1 (fun e => e) p
              have v0m := fun p : Mutd (fun _ : Nat => False) V24 => cell_mutd v0 (fun e => e) p
              have v1m := fun p : Mutd (fun _ : Nat => False) V24 => cell_mutd v1 (fun e => e) p
              have HXC := Lib.hid (CompsAt.below HCX.out hS.bel)
              have hxn : xn ≤ 1000 := by
                rw [ListAt.len HXC.out]
                exact comps_small HPL.out.1 HE.out
              have hyn : yn ≤ 1000 := by
                rw [ListAt.len hY]
                have := congrArg List.length HY.out.2.2.2.2
                rw [List.length_map, List.length_map] at this
                rw [this]
                exact comps_small HPL.out.1 HE.out
              have HK := Lib.hid (And.intro hS (And.intro hI (And.intro hY (And.intro hxn hyn))))
              clear hS hI hY B14 B18 hxn hyn
              refine wp_region_low3 (postsO e y) (fun _ : Nat => False) [5, 6, 7, 8, 11, 14, 15, 16, 17, 18, 20, 22] noSto 24 (by kernel_rfl) (fun b hb => hb.elim) noSto_inj (by kernel_rfl) ?_
              simp only [List.take, List.drop]
              iterate 5 (refine low3_step noSto_no (fun K hK => ?_); go_simp; first | (refine hK _ ?_; clear hK K) | (apply Exists.intro; refine ⟨fun p => ?_, hK _ ?_⟩; clear hK K))
              refine low3_call 23 #[.agg #[.int .i64 e.id, .slice xa xn xc], .agg #[.int .i64 y.id, .slice ya yn yc]] (aIs (.bool true)) noSto_no (by decide) (by rfl) (fun w => by go_simp) (by simp [postsO]) (fun V hV => by
                have hbV : Below V24.heap.size V24 V := Mut.below hV.1 (Nat.le_refl _) (fun _ _ e => e)
                have hye := HY.out.2.2.1 HMB.out
                have h2 := (CompsAt.below HK.out.2.2.1 hbV)
                rw [hye] at h2
                have h3 := sameE_any e xa xn xc ya yn yc V (CompsAt.below HXC.out hbV) h2
                rw [hye]
                exact h3.mono fun e w' ⟨he, hb⟩ => ⟨_, he, rfl, Mut.of_below hb⟩) ?_
              rintro vs w3 w4 - rfl -
              iterate 5 (refine low3_step noSto_no (fun K hK => ?_); go_simp; first | (refine hK _ ?_; clear hK K) | (apply Exists.intro; refine ⟨fun p => ?_, hK _ ?_⟩; clear hK K))
              refine low3_call 24 #[.agg #[.int .i64 e.id, .slice xa xn xc], .int .u32 2040] (aPart e) noSto_no (by decide) (by rfl) (fun w => by go_simp) (by simp [postsO]) (fun V hV => by
                have hbV : Below V24.heap.size V24 V := Mut.below hV.1 (Nat.le_refl _) (fun _ _ e => e)
                exact (part_any e xa xn xc 2040 V (CompsAt.below HXC.out hbV) HK.out.2.2.2.1).mono fun r w' ⟨a1, n1, c1, he, hF, hb⟩ => by
                  exact ⟨_, he, ⟨a1, n1, c1, rfl, hF, hb⟩, Mut.of_below hb⟩) ?_
              rintro vp w5 w6 - ⟨p1, p2, p3, rfl, hP1, -⟩ -
              iterate 2 (refine low3_step noSto_no (fun K hK => ?_); go_simp; first | (refine hK _ ?_; clear hK K) | (apply Exists.intro; refine ⟨fun p => ?_, hK _ ?_⟩; clear hK K))
              refine low3_call 24 #[.agg #[.int .i64 y.id, .slice ya yn yc], .int .u32 2040] (aPart e) noSto_no (by decide) (by rfl) (fun w => by go_simp) (by simp [postsO]) (fun V hV => by
                have hbV : Below V24.heap.size V24 V := Mut.below hV.1 (Nat.le_refl _) (fun _ _ e => e)
                exact (part_any y ya yn yc 2040 V (CompsAt.below HK.out.2.2.1 hbV) HK.out.2.2.2.2).mono fun r w' ⟨a1, n1, c1, he, hF, hb⟩ => by
                  rw [HY.out.2.2.2.1] at hF
                  exact ⟨_, he, ⟨a1, n1, c1, by rw [HY.out.2.1], hF, hb⟩, Mut.of_below hb⟩) ?_
              rintro vq w7 w8 hV7 ⟨r1, r2, r3, rfl, hP2, hB78⟩ -
              have h67 : ∀ b, w5.heap.size ≤ b → b < w6.heap.size → w7.heap[b]? = w6.heap[b]? := fun b h1 h2 => (hV7.2.2 (by decide)).1 b (.inr (.inr ⟨h1, h2⟩))
              clear hV7
              refine low3_call 23 #[.agg #[.int .i64 e.id, .slice p1 p2 p3], .agg #[.int .i64 e.id, .slice r1 r2 r3]] (aIs (.bool true)) noSto_no (by decide) (by rfl) (fun w => by go_simp) (by simp [postsO]) (fun V hV => by
                have hQ2 := hP2.agree (w' := V) (fun b h1 h2 => (hV.2.2 (by decide)).1 b (.inr (.inr ⟨h1, h2⟩)))
                have hQ1 := hP1.agree (w' := V) (fun b h1 h2 => by
                  have e1 := h67 b h1 h2
                  have l7 : b < w7.heap.size := by
                    rw [Array.getElem?_eq_getElem h2] at e1
                    exact (Array.getElem?_eq_some_iff.1 e1).1
                  rw [(hV.2.2 (by decide)).1 b (.inr (.inl (.inr ⟨h1, h2⟩))), hB78.block b l7, e1])
                exact (sameE_any ⟨e.id, e.cs.filter (inM 2040)⟩ p1 p2 p3 r1 r2 r3 V hQ1.comps hQ2.comps).mono fun e w' ⟨he, hb⟩ => ⟨_, he, rfl, Mut.of_below hb⟩) ?_
              rintro vs2 w9 w10 - rfl -
              clear hP1 hP2 h67 hB78
              iterate 4 (refine low3_step noSto_no (fun K hK => ?_); go_simp; first | (refine hK _ ?_; clear hK K) | (apply Exists.intro; refine ⟨fun p => ?_, hK _ ?_⟩; clear hK K))
              refine low3_call 25 #[.agg #[.int .i64 e.id, .slice xa xn xc]] (aIs (.int .u32 (maskM e.cs))) noSto_no (by decide) (by rfl) (fun w => by go_simp) (by simp [postsO]) (fun V hV => by
                have hbV : Below V24.heap.size V24 V := Mut.below hV.1 (Nat.le_refl _) (fun _ _ e => e)
                exact (mask_any e xa xn xc V (CompsAt.below HXC.out hbV)).mono fun r w' ⟨he, hb⟩ => by
                  exact ⟨_, he, rfl, Mut.of_below hb⟩) ?_
              rintro vm11 w11 w12 - rfl -
              iterate 1 (refine low3_step noSto_no (fun K hK => ?_); go_simp; first | (refine hK _ ?_; clear hK K) | (apply Exists.intro; refine ⟨fun p => ?_, hK _ ?_⟩; clear hK K))
              refine low3_call 25 #[.agg #[.int .i64 y.id, .slice ya yn yc]] (aIs (.int .u32 (maskM e.cs))) noSto_no (by decide) (by rfl) (fun w => by go_simp) (by simp [postsO]) (fun V hV => by
                have hbV : Below V24.heap.size V24 V := Mut.below hV.1 (Nat.le_refl _) (fun _ _ e => e)
                exact (mask_any y ya yn yc V (CompsAt.below HK.out.2.2.1 hbV)).mono fun r w' ⟨he, hb⟩ => by
                  rw [maskM_kinds HY.out.2.2.2.2] at he
                  exact ⟨_, he, rfl, Mut.of_below hb⟩) ?_
              rintro vm13 w13 w14 - rfl -
              iterate 1 (refine low3_step noSto_no (fun K hK => ?_); go_simp; first | (refine hK _ ?_; clear hK K) | (apply Exists.intro; refine ⟨fun p => ?_, hK _ ?_⟩; clear hK K))
              refine low3_nil ?_
              intro V25 hC
              have hfr : Below V24.heap.size V24 V25 := hC.fr.below (Nat.le_refl _) (fun _ _ e => e)
              have HS := Lib.hid (And.intro (HK.out.1.below hfr) (IntsAt.below HK.out.2.1 hfr))
              clear hC hfr HK HXC u0 u1 ul v0 v1 vl u0m u1m v0m v1m
              have hst := cntO_step (id := c.id) HE.out
              rw [HMB.out, HC.out] at hst
              simp only [if_true, Bool.false_eq_true, if_false] at hst
              have HST := Lib.hid hst
              clear hst
              go_wp2
              go_roundw
              case rel => exact ⟨i + 1, cnt, ⟨by omega, by go_num⟩, ⟨HST, by omega, by first | rfl | (rw [wc])⟩, HS.out.1, HS.out.2⟩
              case measure => simp [intOf]; omega
            · have z0 := cell_regrown (HB.out.2.2.cell (v := .int .i64 e.id) 0 rfl)
              have e1 : decide ((cnt : Int) < (on : Int)) = false := decide_eq_false (by omega)
              have e2 : decide (cnt < on) = false := decide_eq_false hco
              clear hno hon
              refine wp_region_low2 noPosts 14 (by kernel_rfl) (by kernel_rfl) ?_
              simp only [List.take, List.drop]
              iterate 14 (refine low2_step (fun K hK => ?_); go_simp; first | (refine hK _ ?_; clear hK K) | (apply Exists.intro; refine ⟨fun p => ?_, hK _ ?_⟩; clear hK K))
              refine low2_nil ?_
              intro V19 hC
              have HB9 := Lib.hid (And.intro (HB.out.1.below hC.1) (And.intro (IntsAt.below HB.out.2.1 hC.1) (HB.out.2.2.below hC.1)))
              clear hC HB z0 e1 e2
              obtain ⟨y, hy, hyid, hysame, hyf, hyk⟩ := pred_at HPL.out.1 c.id c.gx c.gy x HE.out
              rw [← HPL.out.2.1] at hy
              rcases HB9.out.1.res with ⟨_, h2⟩ | ⟨b5, o5, cap5, h1, hl5, hc5⟩
              · rw [h2] at hy; cases hy
              injection h1 with q1 q2 q3
              subst q1
              obtain ⟨y0, ya, yn, yc, y1, hY⟩ := hc5 i y hy
              have v1 := HB9.out.1.b5.cell (v := .slice (some ⟨b5, o5, none⟩) n rc) 1 rfl
              have vl := HB9.out.1.b5.lt
              have HY := Lib.hid (And.intro hY (And.intro hyid (And.intro hysame (And.intro hyf hyk))))
              clear hY hyid hysame hyf hyk hc5 hl5 q2 q3 hy
              go_upto_region 24 with fail
              refine wp_name (fun X => (OS w #[.int .i64 c.id, .int .i64 c.gx, .int .i64 c.gy, .int .i64 c.b.t, .slice (some ⟨b2, o2, none⟩) n cap, .int .i64 c.ack, .slice pa pn pc] g5 R.t (.slice (some ⟨b5, o5, none⟩) n rc) R.es X ∧ IntsAt X (.slice oa on oc) (ownM c.b c.id)) ∧ Bk X g14 #[.int .i64 e.id, .slice xa xn xc] 43 ∧ Bk X V19.heap.size #[.int .i64 y.id, .slice ya yn yc] 43 ∧ CompsAt X (.slice ya yn yc) y.cs) ⟨⟨HB9.out.1.below ((Below.refl _ _).alloc (Nat.le_refl _) _), IntsAt.below HB9.out.2.1 ((Below.refl _ _).alloc (Nat.le_refl _) _)⟩, HB9.out.2.2.below ((Below.refl _ _).alloc (Nat.le_refl _) _), Bk.made _ _ _, CompsAt.below HY.out.1 ((Below.refl _ _).alloc (Nat.le_refl _) _)⟩ ?_
              obtain ⟨g18, hg18⟩ : ∃ g, V19.heap.size = g := ⟨_, rfl⟩
              rw [hg18]
              clear hg18 HB9 y0 y1 v1 vl
              rintro V24 ⟨⟨hS, hI⟩, B14, B18, hY⟩
              have u0 := B14.cell (v := .int .i64 e.id) 0 rfl
              have u1 := B14.cell (v := .slice xa xn xc) 1 rfl
              have ul := B14.lt
              have v0 := B18.cell (v := .int .i64 y.id) 0 rfl
              have v1 := B18.cell (v := .slice ya yn yc) 1 rfl
              have vl := B18.lt
              have u0m := fun p : Mutd (fun _ : Nat => False) V24 => cell_mutd u0 (fun e => e) p
              have u1m := fun p : Mutd (fun _ : Nat => False) V24 => cell_mutd u1 (fun e => e) p
              have v0m := fun p : Mutd (fun _ : Nat => False) V24 => cell_mutd v0 (fun e => e) p
              have v1m := fun p : Mutd (fun _ : Nat => False) V24 => cell_mutd v1 (fun e => e) p
              have HXC := Lib.hid (CompsAt.below HCX.out hS.bel)
              have hxn : xn ≤ 1000 := by
                rw [ListAt.len HXC.out]
                exact comps_small HPL.out.1 HE.out
              have hyn : yn ≤ 1000 := by
                rw [ListAt.len hY]
                have := congrArg List.length HY.out.2.2.2.2
                rw [List.length_map, List.length_map] at this
                rw [this]
                exact comps_small HPL.out.1 HE.out
              have HK := Lib.hid (And.intro hS (And.intro hI (And.intro hY (And.intro hxn hyn))))
              clear hS hI hY B14 B18 hxn hyn
              refine wp_region_low3 (postsO e y) (fun _ : Nat => False) [5, 6, 7, 8, 11, 14, 15, 16, 17, 18, 20, 22] noSto 24 (by kernel_rfl) (fun b hb => hb.elim) noSto_inj (by kernel_rfl) ?_
              simp only [List.take, List.drop]
              iterate 5 (refine low3_step noSto_no (fun K hK => ?_); go_simp; first | (refine hK _ ?_; clear hK K) | (apply Exists.intro; refine ⟨fun p => ?_, hK _ ?_⟩; clear hK K))
              refine low3_call 23 #[.agg #[.int .i64 e.id, .slice xa xn xc], .agg #[.int .i64 y.id, .slice ya yn yc]] (aIs (.bool true)) noSto_no (by decide) (by rfl) (fun w => by go_simp) (by simp [postsO]) (fun V hV => by
                have hbV : Below V24.heap.size V24 V := Mut.below hV.1 (Nat.le_refl _) (fun _ _ e => e)
                have hye := HY.out.2.2.1 HMB.out
                have h2 := (CompsAt.below HK.out.2.2.1 hbV)
                rw [hye] at h2
                have h3 := sameE_any e xa xn xc ya yn yc V (CompsAt.below HXC.out hbV) h2
                rw [hye]
                exact h3.mono fun e w' ⟨he, hb⟩ => ⟨_, he, rfl, Mut.of_below hb⟩) ?_
              rintro vs w3 w4 - rfl -
              iterate 5 (refine low3_step noSto_no (fun K hK => ?_); go_simp; first | (refine hK _ ?_; clear hK K) | (apply Exists.intro; refine ⟨fun p => ?_, hK _ ?_⟩; clear hK K))
              refine low3_call 24 #[.agg #[.int .i64 e.id, .slice xa xn xc], .int .u32 2040] (aPart e) noSto_no (by decide) (by rfl) (fun w => by go_simp) (by simp [postsO]) (fun V hV => by
                have hbV : Below V24.heap.size V24 V := Mut.below hV.1 (Nat.le_refl _) (fun _ _ e => e)
                exact (part_any e xa xn xc 2040 V (CompsAt.below HXC.out hbV) HK.out.2.2.2.1).mono fun r w' ⟨a1, n1, c1, he, hF, hb⟩ => by
                  exact ⟨_, he, ⟨a1, n1, c1, rfl, hF, hb⟩, Mut.of_below hb⟩) ?_
              rintro vp w5 w6 - ⟨p1, p2, p3, rfl, hP1, -⟩ -
              iterate 2 (refine low3_step noSto_no (fun K hK => ?_); go_simp; first | (refine hK _ ?_; clear hK K) | (apply Exists.intro; refine ⟨fun p => ?_, hK _ ?_⟩; clear hK K))
              refine low3_call 24 #[.agg #[.int .i64 y.id, .slice ya yn yc], .int .u32 2040] (aPart e) noSto_no (by decide) (by rfl) (fun w => by go_simp) (by simp [postsO]) (fun V hV => by
                have hbV : Below V24.heap.size V24 V := Mut.below hV.1 (Nat.le_refl _) (fun _ _ e => e)
                exact (part_any y ya yn yc 2040 V (CompsAt.below HK.out.2.2.1 hbV) HK.out.2.2.2.2).mono fun r w' ⟨a1, n1, c1, he, hF, hb⟩ => by
                  rw [HY.out.2.2.2.1] at hF
                  exact ⟨_, he, ⟨a1, n1, c1, by rw [HY.out.2.1], hF, hb⟩, Mut.of_below hb⟩) ?_
              rintro vq w7 w8 hV7 ⟨r1, r2, r3, rfl, hP2, hB78⟩ -
              have h67 : ∀ b, w5.heap.size ≤ b → b < w6.heap.size → w7.heap[b]? = w6.heap[b]? := fun b h1 h2 => (hV7.2.2 (by decide)).1 b (.inr (.inr ⟨h1, h2⟩))
              clear hV7
              refine low3_call 23 #[.agg #[.int .i64 e.id, .slice p1 p2 p3], .agg #[.int .i64 e.id, .slice r1 r2 r3]] (aIs (.bool true)) noSto_no (by decide) (by rfl) (fun w => by go_simp) (by simp [postsO]) (fun V hV => by
                have hQ2 := hP2.agree (w' := V) (fun b h1 h2 => (hV.2.2 (by decide)).1 b (.inr (.inr ⟨h1, h2⟩)))
                have hQ1 := hP1.agree (w' := V) (fun b h1 h2 => by
                  have e1 := h67 b h1 h2
                  have l7 : b < w7.heap.size := by
                    rw [Array.getElem?_eq_getElem h2] at e1
                    exact (Array.getElem?_eq_some_iff.1 e1).1
                  rw [(hV.2.2 (by decide)).1 b (.inr (.inl (.inr ⟨h1, h2⟩))), hB78.block b l7, e1])
                exact (sameE_any ⟨e.id, e.cs.filter (inM 2040)⟩ p1 p2 p3 r1 r2 r3 V hQ1.comps hQ2.comps).mono fun e w' ⟨he, hb⟩ => ⟨_, he, rfl, Mut.of_below hb⟩) ?_
              rintro vs2 w9 w10 - rfl -
              clear hP1 hP2 h67 hB78
              iterate 4 (refine low3_step noSto_no (fun K hK => ?_); go_simp; first | (refine hK _ ?_; clear hK K) | (apply Exists.intro; refine ⟨fun p => ?_, hK _ ?_⟩; clear hK K))
              refine low3_call 25 #[.agg #[.int .i64 e.id, .slice xa xn xc]] (aIs (.int .u32 (maskM e.cs))) noSto_no (by decide) (by rfl) (fun w => by go_simp) (by simp [postsO]) (fun V hV => by
                have hbV : Below V24.heap.size V24 V := Mut.below hV.1 (Nat.le_refl _) (fun _ _ e => e)
                exact (mask_any e xa xn xc V (CompsAt.below HXC.out hbV)).mono fun r w' ⟨he, hb⟩ => by
                  exact ⟨_, he, rfl, Mut.of_below hb⟩) ?_
              rintro vm11 w11 w12 - rfl -
              iterate 1 (refine low3_step noSto_no (fun K hK => ?_); go_simp; first | (refine hK _ ?_; clear hK K) | (apply Exists.intro; refine ⟨fun p => ?_, hK _ ?_⟩; clear hK K))
              refine low3_call 25 #[.agg #[.int .i64 y.id, .slice ya yn yc]] (aIs (.int .u32 (maskM e.cs))) noSto_no (by decide) (by rfl) (fun w => by go_simp) (by simp [postsO]) (fun V hV => by
                have hbV : Below V24.heap.size V24 V := Mut.below hV.1 (Nat.le_refl _) (fun _ _ e => e)
                exact (mask_any y ya yn yc V (CompsAt.below HK.out.2.2.1 hbV)).mono fun r w' ⟨he, hb⟩ => by
                  rw [maskM_kinds HY.out.2.2.2.2] at he
                  exact ⟨_, he, rfl, Mut.of_below hb⟩) ?_
              rintro vm13 w13 w14 - rfl -
              iterate 1 (refine low3_step noSto_no (fun K hK => ?_); go_simp; first | (refine hK _ ?_; clear hK K) | (apply Exists.intro; refine ⟨fun p => ?_, hK _ ?_⟩; clear hK K))
              refine low3_nil ?_
              intro V25 hC
              have hfr : Below V24.heap.size V24 V25 := hC.fr.below (Nat.le_refl _) (fun _ _ e => e)
              have HS := Lib.hid (And.intro (HK.out.1.below hfr) (IntsAt.below HK.out.2.1 hfr))
              clear hC hfr HK HXC u0 u1 ul v0 v1 vl u0m u1m v0m v1m
              have hst := cntO_step (id := c.id) HE.out
              rw [HMB.out, HC.out] at hst
              simp only [if_true, Bool.false_eq_true, if_false] at hst
              have HST := Lib.hid hst
              clear hst
              go_wp2
              go_roundw
              case rel => exact ⟨i + 1, cnt, ⟨by omega, by go_num⟩, ⟨HST, by omega, by first | rfl | (rw [wc])⟩, HS.out.1, HS.out.2⟩
              case measure => simp [intOf]; omega
      · obtain rfl : i = n := by omega
        have hca := cntO_all c.b c.id
        rw [← HNL.out, HC.out, ← ListAt.len hI] at hca
        obtain rfl : cnt = on := hca
        have hb := hS.bel
        clear hS hI HS HC
        go_wp2_with fail
        refine (AWK.out _ hb).mono ?_
        rintro e VA ⟨rfl, hbA⟩
        have hbE := (below_cc hbA hb).1
        clear hbA
        go_wp2
        go_returns
        exact ⟨rfl, hbE⟩
set_option maxHeartbeats 8000000 in
theorem own_big (id gx gy t ack : Int) (a : Option Addr) (n cap : Nat) (pa : Option Addr) (pn pc : Nat) (x : Inp) (hX : I64 x.mx ∧ I64 x.my) (w : World) (hR : RG w) (hM : RM w) (hw : 2 ≤ w.heap.size) (h : EntsRaw w (.slice a n cap)) (hp : InpsRaw w (.slice pa pn pc)) (hbig : ¬ (SmallE w a n ∧ pn ≤ 66)) :
    Calls Tryz.prog 7 #[.agg #[.int .i64 id, .int .i64 gx, .int .i64 gy, .int .i64 t, .slice a n cap, .int .i64 ack, .slice pa pn pc], Iv x] w fun e w' => e = .returned (.bool true) ∧ Below w.heap.size w w' := by
  have AWK := Lib.hid (fun V (hV : Below w.heap.size w V) => awake_any V (hR.below hV) (hM.low hV hw) (Nat.le_trans hw hV.size))
  have FW := Lib.hid (fun V (hV : Below w.heap.size w V) => Few_big id gx gy t ack a n cap pa pn pc V (h.below hV) (SlRaw.below (fun b o ⟨x, hx, hi⟩ => ⟨x, InpAt.below' hV b o x hx, hi⟩) hp) (fun q => hbig ⟨q.1.back h hV, q.2⟩))
  clear hR hM hw h hp hbig
  unfold Iv
  go_enter Tryz.func7, Tryz.ntmps7
  have HB1 := Lib.hid (show Bk ((w.alloc (.cells #[.int .i64 id, .int .i64 gx, .int .i64 gy, .int .i64 t, .slice a n cap, .int .i64 ack, .slice pa pn pc] 29)).alloc (.cells #[.int .i64 x.c, .int .i64 x.s, .int .i64 x.t, .int .i64 x.mx, .int .i64 x.my, .bool x.fire, .int .i64 x.ax, .int .i64 x.ay, .int .i64 x.seen, .int .i64 x.part] 37)) w.heap.size #[.int .i64 id, .int .i64 gx, .int .i64 gy, .int .i64 t, .slice a n cap, .int .i64 ack, .slice pa pn pc] 29 ∧ Below w.heap.size w ((w.alloc (.cells #[.int .i64 id, .int .i64 gx, .int .i64 gy, .int .i64 t, .slice a n cap, .int .i64 ack, .slice pa pn pc] 29)).alloc (.cells #[.int .i64 x.c, .int .i64 x.s, .int .i64 x.t, .int .i64 x.mx, .int .i64 x.my, .bool x.fire, .int .i64 x.ax, .int .i64 x.ay, .int .i64 x.seen, .int .i64 x.part] 37)) from ⟨(Bk.made _ _ _).alloc _, by go_grown⟩)
  go_wp2_with fail
  refine (FW.out _ HB1.out.2).mono ?_
  rintro e V1 ⟨rfl, hb1⟩
  obtain ⟨hb, hs⟩ := below_cc hb1 HB1.out.2
  clear hb1 HB1 FW
  go_wp2_with fail
  refine (AWK.out _ hb).mono ?_
  rintro e VA ⟨rfl, hbA⟩
  have hbE := (below_cc hbA hb).1
  clear hbA
  go_wp2
  go_returns
  exact ⟨rfl, hbE⟩
theorem cown_law (c : Cli) (a : Option Addr) (n cap : Nat) (pa : Option Addr) (pn pc : Nat) (x : Inp) (hX : I64 x.mx ∧ I64 x.my) (w : World) (hR : RG w) (hM : RM w) (hw : 2 ≤ w.heap.size) (h : EntsAt w (.slice a n cap) c.b.es) (hp : InpsAt w (.slice pa pn pc) c.p) (hcap : pn ≤ pc) (hx : I64s c.p) (hid : I64 c.id ∧ I64 c.gx ∧ I64 c.gy ∧ I64 c.b.t ∧ I64 c.ack) :
    Calls Tryz.prog 7 #[Cv c a n cap pa pn pc, Iv x] w fun e w' => e = .returned (.bool true) ∧ Below w.heap.size w w' := by
  obtain ⟨⟨R, z⟩, hr⟩ : ∃ r, predR c.b c.id c.gx c.gy x = r := ⟨_, rfl⟩
  by_cases hz : z = 0
  · subst hz
    exact own_2 c a n cap pa pn pc x hX w hR hM hw h hp hcap hx hid R hr
  · have h2 := predR_err (W := c.b) (id := c.id) (gx := c.gx) (gy := c.gy) (x := x) (by rw [hr]; exact hz)
    rw [hr] at h2
    have hR0 : R = ⟨0, []⟩ := congrArg Prod.fst h2
    exact own_1 c a n cap pa pn pc x hX w hR hM hw h hp hcap hx hid R z hz (by rw [hr, hR0]) hR0
end Go.Proofs.YtlcjkomfjgddeaaGreatDoor
