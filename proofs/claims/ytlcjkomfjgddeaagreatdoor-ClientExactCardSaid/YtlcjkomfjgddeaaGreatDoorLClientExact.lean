/- The walk of ClientExact. -/
import Derived.Test.YtlcjkomfjgddeaaGreatDoorExactAll
set_option linter.unusedVariables false
set_option linter.unusedSimpArgs false
namespace Go.Proofs.YtlcjkomfjgddeaaGreatDoor
open Go Go.RowKit Go.Sort
set_option maxRecDepth 100000
attribute [local go_sem] opLow opUpon opLow2 opUpon2 opLow3

theorem ints_cell' {w : World} {a : Option Addr} {n c : Nat} {l : List Int} (h : IntsAt w (.slice a n c) l) {k : Nat} {v : Int} (hk : l[k]? = some v) : ∃ b off, a = some ⟨b, off, none⟩ ∧ w.cell? ⟨b, off + k, none⟩ = some (.int .i64 v) := by
  rcases h with ⟨_, h2⟩ | ⟨b, off, cap, h1, hl, hc⟩
  · rw [h2] at hk; cases hk
  · injection h1 with q1 q2 q3
    have := hc k v hk
    unfold IntAt at this
    rw [Nat.mul_one] at this
    exact ⟨b, off, q1, this⟩
set_option maxHeartbeats 8000000 in
theorem exact_0 (c : Cli) (a : Option Addr) (n cap : Nat) (pa : Option Addr) (pn pc : Nat) (x : Inp) (hX : I64 x.mx ∧ I64 x.my) (w : World) (hR : RG w) (hM : RM w) (hw : 2 ≤ w.heap.size) (h : EntsAt w (.slice a n cap) c.b.es) (hp : InpsAt w (.slice pa pn pc) c.p) (hcap : pn ≤ pc) (hx : I64s c.p) (hid : I64 c.id ∧ I64 c.gx ∧ I64 c.gy ∧ I64 c.b.t ∧ I64 c.ack) (hn : ¬ ((-1099511627776 ≤ x.mx ∧ x.mx ≤ 1099511627776) ∧ (-1099511627776 ≤ x.my ∧ x.my ≤ 1099511627776))) :
    Calls Tryz.prog 8 #[Cv c a n cap pa pn pc, Iv x] w fun e w' => e = .returned (.bool true) ∧ Below w.heap.size w w' := by
  have AWK := Lib.hid (fun V (hV : Below w.heap.size w V) => awake_any V (hR.below hV) (hM.low hV hw) (Nat.le_trans hw hV.size))
  have FW := Lib.hid (fun V (hV : Below w.heap.size w V) => Few_any c a n cap pa pn pc V (EntsAt.below h hV) (InpsAt.below hp hV))
  clear hR hM hw h hp hx hid hcap
  unfold Cv ccs at FW
  unfold Cv ccs Iv
  go_enter Tryz.func8, Tryz.ntmps8
  have HB1 := Lib.hid (show Bk ((w.alloc (.cells #[.int .i64 c.id, .int .i64 c.gx, .int .i64 c.gy, .int .i64 c.b.t, .slice a n cap, .int .i64 c.ack, .slice pa pn pc] 29)).alloc (.cells #[.int .i64 x.c, .int .i64 x.s, .int .i64 x.t, .int .i64 x.mx, .int .i64 x.my, .bool x.fire, .int .i64 x.ax, .int .i64 x.ay, .int .i64 x.seen, .int .i64 x.part] 37)) w.heap.size #[.int .i64 c.id, .int .i64 c.gx, .int .i64 c.gy, .int .i64 c.b.t, .slice a n cap, .int .i64 c.ack, .slice pa pn pc] 29 ∧ Bk ((w.alloc (.cells #[.int .i64 c.id, .int .i64 c.gx, .int .i64 c.gy, .int .i64 c.b.t, .slice a n cap, .int .i64 c.ack, .slice pa pn pc] 29)).alloc (.cells #[.int .i64 x.c, .int .i64 x.s, .int .i64 x.t, .int .i64 x.mx, .int .i64 x.my, .bool x.fire, .int .i64 x.ax, .int .i64 x.ay, .int .i64 x.seen, .int .i64 x.part] 37)) (w.heap.size + 1) #[.int .i64 x.c, .int .i64 x.s, .int .i64 x.t, .int .i64 x.mx, .int .i64 x.my, .bool x.fire, .int .i64 x.ax, .int .i64 x.ay, .int .i64 x.seen, .int .i64 x.part] 37 ∧ Below w.heap.size w ((w.alloc (.cells #[.int .i64 c.id, .int .i64 c.gx, .int .i64 c.gy, .int .i64 c.b.t, .slice a n cap, .int .i64 c.ack, .slice pa pn pc] 29)).alloc (.cells #[.int .i64 x.c, .int .i64 x.s, .int .i64 x.t, .int .i64 x.mx, .int .i64 x.my, .bool x.fire, .int .i64 x.ax, .int .i64 x.ay, .int .i64 x.seen, .int .i64 x.part] 37)) from ⟨(Bk.made _ _ _).alloc _, Bk.at_ (by simp), by go_grown⟩)
  go_wp2_with fail
  refine (FW.out _ HB1.out.2.2).mono ?_
  rintro e V1 ⟨fb, rfl, hb1⟩
  have B1 := HB1.out.1.below hb1
  have B3 := HB1.out.2.1.below hb1
  obtain ⟨hb, hs⟩ := below_cc hb1 HB1.out.2.2
  clear hb1 HB1 FW
  cases fb
  · go_wp2_with fail
    refine (AWK.out _ hb).mono ?_
    rintro e VA ⟨rfl, hbA⟩
    have hbE := (below_cc hbA hb).1
    clear hbA
    go_wp2
    go_returns
    exact ⟨rfl, hbE⟩
  · have j3 := B3.cell (v := .int .i64 x.mx) 3 rfl
    have j4 := B3.cell (v := .int .i64 x.my) 4 rfl
    have jl := B3.lt
    clear B1 B3
    by_cases k0 : x.mx < -1099511627776
    · have d0 : decide (x.mx < -1099511627776) = true := decide_eq_true k0
      have HK := Lib.hid k0
      clear k0 hn hX
      go_wp2_with fail
      refine (AWK.out _ hb).mono ?_
      rintro e VA ⟨rfl, hbA⟩
      have hbE := (below_cc hbA hb).1
      clear hbA
      go_wp2
      go_returns
      exact ⟨rfl, hbE⟩
    · have d0 : decide (x.mx < -1099511627776) = false := decide_eq_false k0
      by_cases k1 : x.mx > 1099511627776
      · have d1 : decide (x.mx > 1099511627776) = true := decide_eq_true k1
        have HK := Lib.hid k1
        clear k1 hn hX
        go_wp2_with fail
        refine (AWK.out _ hb).mono ?_
        rintro e VA ⟨rfl, hbA⟩
        have hbE := (below_cc hbA hb).1
        clear hbA
        go_wp2
        go_returns
        exact ⟨rfl, hbE⟩
      · have d1 : decide (x.mx > 1099511627776) = false := decide_eq_false k1
        by_cases k2 : x.my < -1099511627776
        · have d2 : decide (x.my < -1099511627776) = true := decide_eq_true k2
          have HK := Lib.hid k2
          clear k2 hn hX
          go_wp2_with fail
          refine (AWK.out _ hb).mono ?_
          rintro e VA ⟨rfl, hbA⟩
          have hbE := (below_cc hbA hb).1
          clear hbA
          go_wp2
          go_returns
          exact ⟨rfl, hbE⟩
        · have d2 : decide (x.my < -1099511627776) = false := decide_eq_false k2
          by_cases k3 : x.my > 1099511627776
          · have d3 : decide (x.my > 1099511627776) = true := decide_eq_true k3
            have HK := Lib.hid k3
            clear k3 hn hX
            go_wp2_with fail
            refine (AWK.out _ hb).mono ?_
            rintro e VA ⟨rfl, hbA⟩
            have hbE := (below_cc hbA hb).1
            clear hbA
            go_wp2
            go_returns
            exact ⟨rfl, hbE⟩
          · exact absurd ⟨⟨by omega, by omega⟩, by omega, by omega⟩ hn
set_option maxHeartbeats 16000000 in
theorem exact_1 (c : Cli) (a : Option Addr) (n cap : Nat) (pa : Option Addr) (pn pc : Nat) (x : Inp) (hX : I64 x.mx ∧ I64 x.my) (w : World) (hR : RG w) (hM : RM w) (hw : 2 ≤ w.heap.size) (h : EntsAt w (.slice a n cap) c.b.es) (hp : InpsAt w (.slice pa pn pc) c.p) (hcap : pn ≤ pc) (hx : I64s c.p) (hid : I64 c.id ∧ I64 c.gx ∧ I64 c.gy ∧ I64 c.b.t ∧ I64 c.ack) (hn : (-1099511627776 ≤ x.mx ∧ x.mx ≤ 1099511627776) ∧ (-1099511627776 ≤ x.my ∧ x.my ≤ 1099511627776)) (hv : ¬ Valid c.b) :
    Calls Tryz.prog 8 #[Cv c a n cap pa pn pc, Iv x] w fun e w' => e = .returned (.bool true) ∧ Below w.heap.size w w' := by
  have AWK := Lib.hid (fun V (hV : Below w.heap.size w V) => awake_any V (hR.below hV) (hM.low hV hw) (Nat.le_trans hw hV.size))
  have FW := Lib.hid (fun V (hV : Below w.heap.size w V) => Few_any c a n cap pa pn pc V (EntsAt.below h hV) (InpsAt.below hp hV))
  have HRG := Lib.hid (fun V (hV : Below w.heap.size w V) => And.intro (hR.below hV) (And.intro (hM.low hV hw) (Nat.le_trans hw hV.size)))
  have HV := Lib.hid hv
  have HH := Lib.hid h
  have hnl : n = c.b.es.length := ListAt.len h
  have HXI := Lib.hid hX
  have hn64 : n < 1099511627776 := by
    rcases h with ⟨_, h2⟩ | ⟨b, off, cap', _, hl, _⟩
    · rw [hnl, h2]; simp
    · rw [hnl]; exact hl
  have HNL := Lib.hid hnl
  have HN := Lib.hid hn
  clear hR hM hw h hp hx hid hcap hv hnl hX hn
  unfold Cv ccs at FW
  unfold Cv ccs Iv
  go_enter Tryz.func8, Tryz.ntmps8
  have HB1 := Lib.hid (show Bk ((w.alloc (.cells #[.int .i64 c.id, .int .i64 c.gx, .int .i64 c.gy, .int .i64 c.b.t, .slice a n cap, .int .i64 c.ack, .slice pa pn pc] 29)).alloc (.cells #[.int .i64 x.c, .int .i64 x.s, .int .i64 x.t, .int .i64 x.mx, .int .i64 x.my, .bool x.fire, .int .i64 x.ax, .int .i64 x.ay, .int .i64 x.seen, .int .i64 x.part] 37)) w.heap.size #[.int .i64 c.id, .int .i64 c.gx, .int .i64 c.gy, .int .i64 c.b.t, .slice a n cap, .int .i64 c.ack, .slice pa pn pc] 29 ∧ Bk ((w.alloc (.cells #[.int .i64 c.id, .int .i64 c.gx, .int .i64 c.gy, .int .i64 c.b.t, .slice a n cap, .int .i64 c.ack, .slice pa pn pc] 29)).alloc (.cells #[.int .i64 x.c, .int .i64 x.s, .int .i64 x.t, .int .i64 x.mx, .int .i64 x.my, .bool x.fire, .int .i64 x.ax, .int .i64 x.ay, .int .i64 x.seen, .int .i64 x.part] 37)) (w.heap.size + 1) #[.int .i64 x.c, .int .i64 x.s, .int .i64 x.t, .int .i64 x.mx, .int .i64 x.my, .bool x.fire, .int .i64 x.ax, .int .i64 x.ay, .int .i64 x.seen, .int .i64 x.part] 37 ∧ Below w.heap.size w ((w.alloc (.cells #[.int .i64 c.id, .int .i64 c.gx, .int .i64 c.gy, .int .i64 c.b.t, .slice a n cap, .int .i64 c.ack, .slice pa pn pc] 29)).alloc (.cells #[.int .i64 x.c, .int .i64 x.s, .int .i64 x.t, .int .i64 x.mx, .int .i64 x.my, .bool x.fire, .int .i64 x.ax, .int .i64 x.ay, .int .i64 x.seen, .int .i64 x.part] 37)) from ⟨(Bk.made _ _ _).alloc _, Bk.at_ (by simp), by go_grown⟩)
  go_wp2_with fail
  refine (FW.out _ HB1.out.2.2).mono ?_
  rintro e V1 ⟨fb, rfl, hb1⟩
  have B1 := HB1.out.1.below hb1
  have B3 := HB1.out.2.1.below hb1
  obtain ⟨hb, hs⟩ := below_cc hb1 HB1.out.2.2
  clear hb1 HB1 FW
  cases fb
  · go_wp2_with fail
    refine (AWK.out _ hb).mono ?_
    rintro e VA ⟨rfl, hbA⟩
    have hbE := (below_cc hbA hb).1
    clear hbA
    go_wp2
    go_returns
    exact ⟨rfl, hbE⟩
  · have hU := And.intro B1 (And.intro B3 (And.intro (EntsAt.below HH.out hb) hb))
    have HU := Lib.hid hU
    have s3 := B1.cell (v := .int .i64 c.b.t) 3 rfl
    have s4 := B1.cell (v := .slice a n cap) 4 rfl
    have sl := B1.lt
    have j3 := B3.cell (v := .int .i64 x.mx) 3 rfl
    have j4 := B3.cell (v := .int .i64 x.my) 4 rfl
    have jl := B3.lt
    obtain ⟨⟨n1, n2⟩, n3, n4⟩ := HN.out
    have d0 : decide (x.mx < -1099511627776) = false := decide_eq_false (by omega)
    have d1 : decide (x.mx > 1099511627776) = false := decide_eq_false (by omega)
    have d2 : decide (x.my < -1099511627776) = false := decide_eq_false (by omega)
    have d3 : decide (x.my > 1099511627776) = false := decide_eq_false (by omega)
    clear n1 n2 n3 n4 hU B1 B3 hb hs HH
    go_upto_region 4 with fail
    go_upto_region 5 with fail
    refine wp_name (fun X => LA V1 V1.heap.size c.b.t (.slice a n cap) c.b.es X (.slice a n cap) c.b.es) (LA.start _ _ _ _) ?_
    obtain ⟨g6, hg6⟩ : ∃ g, V1.heap.size = g := ⟨_, rfl⟩
    rw [hg6]
    have HG := Lib.hid (Nat.le_of_eq hg6)
    clear hg6 d0 d1 d2 d3 s3 s4 sl j3 j4 jl
    rintro V5 hL
    have B1 := HU.out.1.below hL.bel
    have s4 := B1.cell (v := .slice a n cap) 4 rfl
    have sl := B1.lt
    have HL5 := Lib.hid hL
    clear hL B1
    go_wp2
    clear s4 sl
    go_loopw [67] (fun v67 wr => ∃ (i : Nat) (a' : Option Addr) (n' c' : Nat), (i ≤ n ∧ v67 = .int .i64 i) ∧ LA V1 g6 c.b.t (.slice a n cap) c.b.es wr (.slice a' n' c') c.b.es) (fun v67 _ => n - (intOf v67).toNat)
    case atStart => exact ⟨0, a, n, cap, ⟨by omega, rfl⟩, HL5.out⟩
    case round =>
      clear HL5
      obtain ⟨i, a', n', c', ⟨hi, rfl⟩, hL⟩ := hrel
      by_cases hlt : i < n
      · obtain ⟨e, he⟩ := at_lt (l := c.b.es) (i := i) (by rw [← HNL.out]; exact hlt)
        rcases HU.out.2.2.1 with ⟨_, h2⟩ | ⟨b2, o2, cap2, h1, hl2, hc2⟩
        · rw [h2] at he; cases he
        injection h1 with q1 q2 q3
        subst q1
        obtain ⟨x0, xa, xn, xc, x1, hxc⟩ := hc2 i e he
        replace x0 := cell_later hL.bel x0
        replace x1 := cell_later hL.bel x1
        have HE := Lib.hid he
        have HL := Lib.hid hL
        clear hc2 hl2 q2 q3 he hxc hL
        go_upto_region 8 with fail
        refine wp_name (fun X => LA V1 g6 c.b.t (.slice (some ⟨b2, o2, none⟩) n cap) c.b.es X (.slice a' n' c') c.b.es ∧ Bk X wr.heap.size #[.int .i64 e.id, .slice xa xn xc] 43) ⟨HL.out.below ((Below.refl _ _).alloc (Nat.le_refl _) _), Bk.made _ _ _⟩ ?_
        obtain ⟨g8, hg8⟩ : ∃ g, wr.heap.size = g := ⟨_, rfl⟩
        rw [hg8]
        clear hg8 HL x0 x1
        rintro V8 ⟨hL, B8⟩
        have q0 := hL.blk.cell (v := .int .i64 c.b.t) 0 rfl
        have q1 := hL.blk.cell (v := .slice a' n' c') 1 rfl
        have ql := hL.blk.lt
        have z0 := B8.cell (v := .int .i64 e.id) 0 rfl
        have zl := B8.lt
        have hbw := (below_cc hL.bel HU.out.2.2.2).1
        have hge := ex_get_bad c.b e.id a' n' c' V8 (HRG.out V8 hbw).1 (hL.ents HU.out.2.2.1) HV.out
        have HGE := Lib.hid hge
        have HB := Lib.hid (And.intro hL B8)
        clear hge hL B8 hbw
        go_wp2_with fail
        refine HGE.out.mono ?_
        rintro e' V8b ⟨rfl, hb2⟩
        have HB2 := Lib.hid (And.intro (HB.out.1.below hb2) (HB.out.2.below hb2))
        clear hb2 HGE HB q0 q1 ql z0 zl
        go_upto_region 9 with fail
        refine wp_name (fun X => (LA V1 g6 c.b.t (.slice (some ⟨b2, o2, none⟩) n cap) c.b.es X (.slice a' n' c') c.b.es ∧ Bk X g8 #[.int .i64 e.id, .slice xa xn xc] 43) ∧ Bk X V8b.heap.size #[.int .u8 0, .int .i64 0, .int .i64 0, .int .i64 0, .int .i64 0] 48) ⟨⟨HB2.out.1.below ((Below.refl _ _).alloc (Nat.le_refl _) _), HB2.out.2.below ((Below.refl _ _).alloc (Nat.le_refl _) _)⟩, Bk.made _ _ _⟩ ?_
        clear HB2
        rintro V9 ⟨⟨hL, B8⟩, B9⟩
        have B1 := HU.out.1.below hL.bel
        have s0 := B1.cell (v := .int .i64 c.id) 0 rfl
        have sl := B1.lt
        clear B1
        go_upto_region 10 with fail
        have q0 := hL.blk.cell (v := .int .i64 c.b.t) 0 rfl
        have q1 := hL.blk.cell (v := .slice a' n' c') 1 rfl
        have ql := hL.blk.lt
        have z0 := B8.cell (v := .int .i64 e.id) 0 rfl
        have zl := B8.lt
        have hbw := (below_cc hL.bel HU.out.2.2.2).1
        have hun := ex_unset_bad c.b e.id a' n' c' V9 (HRG.out V9 hbw).1 (hL.ents HU.out.2.2.1) HV.out
        have HUN := Lib.hid hun
        have HL := Lib.hid hL
        clear hun hL B8 hbw s0 sl
        go_wp2_with fail
        refine HUN.out.mono ?_
        rintro e' V10 ⟨ua, un, uc, rfl, hF, hb2⟩
        have HL2 := Lib.hid (HL.out.below hb2)
        clear hb2 HUN HL hF q0 q1 ql z0 zl
        go_upto_region 13 with fail
        refine wp_name (fun X => LA V1 g6 c.b.t (.slice (some ⟨b2, o2, none⟩) n cap) c.b.es X (.slice a' n' c') c.b.es) (HL2.out.below ((Below.refl _ _).alloc (Nat.le_refl _) _)) ?_
        clear HL2
        rintro V13 hL
        have HL := Lib.hid hL
        clear hL
        go_wp2
        go_roundw
        case rel => exact ⟨i + 1, _, _, _, ⟨by omega, by go_num⟩, HL.out⟩
        case measure => simp [intOf]; omega
      · obtain rfl : n = i := by omega
        obtain ⟨⟨R, z⟩, hr⟩ : ∃ r, predR c.b c.id c.gx c.gy x = r := ⟨_, rfl⟩
        have hz : ¬ z = 0 := by
          rintro rfl
          exact HV.out (predR_ok hr).1
        have hbw := (below_cc hL.bel HU.out.2.2.2).1
        have B1 := HU.out.1.below hL.bel
        have B3 := HU.out.2.1.below hL.bel
        have s0 := B1.cell (v := .int .i64 c.id) 0 rfl
        have s1 := B1.cell (v := .int .i64 c.gx) 1 rfl
        have s2 := B1.cell (v := .int .i64 c.gy) 2 rfl
        have s3 := B1.cell (v := .int .i64 c.b.t) 3 rfl
        have s4 := B1.cell (v := .slice a n cap) 4 rfl
        have s5 := B1.cell (v := .int .i64 c.ack) 5 rfl
        have s6 := B1.cell (v := .slice pa pn pc) 6 rfl
        have sl := B1.lt
        have j0 := B3.cell (v := .int .i64 x.c) 0 rfl
        have j1 := B3.cell (v := .int .i64 x.s) 1 rfl
        have j2 := B3.cell (v := .int .i64 x.t) 2 rfl
        have j3 := B3.cell (v := .int .i64 x.mx) 3 rfl
        have j4 := B3.cell (v := .int .i64 x.my) 4 rfl
        have j5 := B3.cell (v := .bool x.fire) 5 rfl
        have j6 := B3.cell (v := .int .i64 x.ax) 6 rfl
        have j7 := B3.cell (v := .int .i64 x.ay) 7 rfl
        have j8 := B3.cell (v := .int .i64 x.seen) 8 rfl
        have j9 := B3.cell (v := .int .i64 x.part) 9 rfl
        have jl := B3.lt
        have q0 := hL.blk.cell (v := .int .i64 c.b.t) 0 rfl
        have q1 := hL.blk.cell (v := .slice a' n' c') 1 rfl
        have ql := hL.blk.lt
        have HPK := Lib.hid (ex_pred c.b a' n' c' c.id c.gx c.gy x wr (HRG.out wr hbw).1 (HRG.out wr hbw).2.1 (HRG.out wr hbw).2.2 (hL.ents HU.out.2.2.1) HXI.out hr)
        have HB := Lib.hid hbw
        clear hbw hL B1 B3
        go_wp2_with fail
        refine HPK.out.mono ?_
        rintro e' V14 ⟨ra, rn, rc, rfl, hF, hb2⟩
        have hb := (below_cc hb2 HB.out).1
        have d0 : (z == 0) = false := by simp; exact hz
        clear hb2 HPK HB hF s0 s1 s2 s3 s4 s5 s6 sl j0 j1 j2 j3 j4 j5 j6 j7 j8 j9 jl q0 q1 ql
        have hs := hb.size
        have HB := Lib.hid (hb.alloc hs (.cells #[.int .i64 R.t, .slice ra rn rc] 26))
        go_upto_region 16 with fail
        refine wp_name (fun X => Below w.heap.size w X) HB.out ?_
        clear HB hb hs
        rintro V16 hb
        go_wp2_with fail
        refine (AWK.out _ hb).mono ?_
        rintro e VA ⟨rfl, hbA⟩
        have hbE := (below_cc hbA hb).1
        clear hbA
        go_wp2
        go_returns
        exact ⟨rfl, hbE⟩
set_option maxHeartbeats 16000000 in
theorem exact_2 (c : Cli) (a : Option Addr) (n cap : Nat) (pa : Option Addr) (pn pc : Nat) (x : Inp) (hX : I64 x.mx ∧ I64 x.my) (w : World) (hR : RG w) (hM : RM w) (hw : 2 ≤ w.heap.size) (h : EntsAt w (.slice a n cap) c.b.es) (hp : InpsAt w (.slice pa pn pc) c.p) (hcap : pn ≤ pc) (hx : I64s c.p) (hid : I64 c.id ∧ I64 c.gx ∧ I64 c.gy ∧ I64 c.b.t ∧ I64 c.ack) (hn : (-1099511627776 ≤ x.mx ∧ x.mx ≤ 1099511627776) ∧ (-1099511627776 ≤ x.my ∧ x.my ≤ 1099511627776)) (hv : Valid c.b) :
    Calls Tryz.prog 8 #[Cv c a n cap pa pn pc, Iv x] w fun e w' => e = .returned (.bool true) ∧ Below w.heap.size w w' := by
  have AWK := Lib.hid (fun V (hV : Below w.heap.size w V) => awake_any V (hR.below hV) (hM.low hV hw) (Nat.le_trans hw hV.size))
  have FW := Lib.hid (fun V (hV : Below w.heap.size w V) => Few_any c a n cap pa pn pc V (EntsAt.below h hV) (InpsAt.below hp hV))
  have HRG := Lib.hid (fun V (hV : Below w.heap.size w V) => And.intro (hR.below hV) (And.intro (hM.low hV hw) (Nat.le_trans hw hV.size)))
  have HV := Lib.hid hv
  have HH := Lib.hid h
  have hnl : n = c.b.es.length := ListAt.len h
  have HXI := Lib.hid hX
  have hn64 : n ≤ 64 := by have := hv.2.1; omega
  have HNL := Lib.hid hnl
  have HN := Lib.hid hn
  clear hR hM hw h hp hx hid hcap hv hnl hX hn
  unfold Cv ccs at FW
  unfold Cv ccs Iv
  go_enter Tryz.func8, Tryz.ntmps8
  have HB1 := Lib.hid (show Bk ((w.alloc (.cells #[.int .i64 c.id, .int .i64 c.gx, .int .i64 c.gy, .int .i64 c.b.t, .slice a n cap, .int .i64 c.ack, .slice pa pn pc] 29)).alloc (.cells #[.int .i64 x.c, .int .i64 x.s, .int .i64 x.t, .int .i64 x.mx, .int .i64 x.my, .bool x.fire, .int .i64 x.ax, .int .i64 x.ay, .int .i64 x.seen, .int .i64 x.part] 37)) w.heap.size #[.int .i64 c.id, .int .i64 c.gx, .int .i64 c.gy, .int .i64 c.b.t, .slice a n cap, .int .i64 c.ack, .slice pa pn pc] 29 ∧ Bk ((w.alloc (.cells #[.int .i64 c.id, .int .i64 c.gx, .int .i64 c.gy, .int .i64 c.b.t, .slice a n cap, .int .i64 c.ack, .slice pa pn pc] 29)).alloc (.cells #[.int .i64 x.c, .int .i64 x.s, .int .i64 x.t, .int .i64 x.mx, .int .i64 x.my, .bool x.fire, .int .i64 x.ax, .int .i64 x.ay, .int .i64 x.seen, .int .i64 x.part] 37)) (w.heap.size + 1) #[.int .i64 x.c, .int .i64 x.s, .int .i64 x.t, .int .i64 x.mx, .int .i64 x.my, .bool x.fire, .int .i64 x.ax, .int .i64 x.ay, .int .i64 x.seen, .int .i64 x.part] 37 ∧ Below w.heap.size w ((w.alloc (.cells #[.int .i64 c.id, .int .i64 c.gx, .int .i64 c.gy, .int .i64 c.b.t, .slice a n cap, .int .i64 c.ack, .slice pa pn pc] 29)).alloc (.cells #[.int .i64 x.c, .int .i64 x.s, .int .i64 x.t, .int .i64 x.mx, .int .i64 x.my, .bool x.fire, .int .i64 x.ax, .int .i64 x.ay, .int .i64 x.seen, .int .i64 x.part] 37)) from ⟨(Bk.made _ _ _).alloc _, Bk.at_ (by simp), by go_grown⟩)
  go_wp2_with fail
  refine (FW.out _ HB1.out.2.2).mono ?_
  rintro e V1 ⟨fb, rfl, hb1⟩
  have B1 := HB1.out.1.below hb1
  have B3 := HB1.out.2.1.below hb1
  obtain ⟨hb, hs⟩ := below_cc hb1 HB1.out.2.2
  clear hb1 HB1 FW
  cases fb
  · go_wp2_with fail
    refine (AWK.out _ hb).mono ?_
    rintro e VA ⟨rfl, hbA⟩
    have hbE := (below_cc hbA hb).1
    clear hbA
    go_wp2
    go_returns
    exact ⟨rfl, hbE⟩
  · have hU := And.intro B1 (And.intro B3 (And.intro (EntsAt.below HH.out hb) hb))
    have HU := Lib.hid hU
    have s3 := B1.cell (v := .int .i64 c.b.t) 3 rfl
    have s4 := B1.cell (v := .slice a n cap) 4 rfl
    have sl := B1.lt
    have j3 := B3.cell (v := .int .i64 x.mx) 3 rfl
    have j4 := B3.cell (v := .int .i64 x.my) 4 rfl
    have jl := B3.lt
    obtain ⟨⟨n1, n2⟩, n3, n4⟩ := HN.out
    have d0 : decide (x.mx < -1099511627776) = false := decide_eq_false (by omega)
    have d1 : decide (x.mx > 1099511627776) = false := decide_eq_false (by omega)
    have d2 : decide (x.my < -1099511627776) = false := decide_eq_false (by omega)
    have d3 : decide (x.my > 1099511627776) = false := decide_eq_false (by omega)
    clear n1 n2 n3 n4 hU B1 B3 hb hs HH
    go_upto_region 4 with fail
    go_upto_region 5 with fail
    refine wp_name (fun X => LA V1 V1.heap.size c.b.t (.slice a n cap) c.b.es X (.slice a n cap) c.b.es) (LA.start _ _ _ _) ?_
    obtain ⟨g6, hg6⟩ : ∃ g, V1.heap.size = g := ⟨_, rfl⟩
    rw [hg6]
    have HG := Lib.hid (Nat.le_of_eq hg6)
    clear hg6 d0 d1 d2 d3 s3 s4 sl j3 j4 jl
    rintro V5 hL
    have B1 := HU.out.1.below hL.bel
    have s4 := B1.cell (v := .slice a n cap) 4 rfl
    have sl := B1.lt
    have HL5 := Lib.hid hL
    clear hL B1
    go_wp2
    clear s4 sl
    go_loopw [67] (fun v67 wr => ∃ (i : Nat) (a' : Option Addr) (n' c' : Nat), (i ≤ n ∧ v67 = .int .i64 i) ∧ LA V1 g6 c.b.t (.slice a n cap) c.b.es wr (.slice a' n' c') (dropW c.b c.id i).es) (fun v67 _ => n - (intOf v67).toNat)
    case atStart => exact ⟨0, a, n, cap, ⟨by omega, rfl⟩, by rw [dropW_zero]; exact HL5.out⟩
    case round =>
      clear HL5
      obtain ⟨i, a', n', c', ⟨hi, rfl⟩, hL⟩ := hrel
      by_cases hlt : i < n
      · obtain ⟨e, he⟩ := at_lt (l := c.b.es) (i := i) (by rw [← HNL.out]; exact hlt)
        rcases HU.out.2.2.1 with ⟨_, h2⟩ | ⟨b2, o2, cap2, h1, hl2, hc2⟩
        · rw [h2] at he; cases he
        injection h1 with q1 q2 q3
        subst q1
        obtain ⟨x0, xa, xn, xc, x1, hxc⟩ := hc2 i e he
        replace x0 := cell_later hL.bel x0
        replace x1 := cell_later hL.bel x1
        have HE := Lib.hid he
        have HL := Lib.hid hL
        clear hc2 hl2 q2 q3 he hxc hL
        go_upto_region 8 with fail
        refine wp_name (fun X => LA V1 g6 c.b.t (.slice (some ⟨b2, o2, none⟩) n cap) c.b.es X (.slice a' n' c') (dropW c.b c.id i).es ∧ Bk X wr.heap.size #[.int .i64 e.id, .slice xa xn xc] 43) ⟨HL.out.below ((Below.refl _ _).alloc (Nat.le_refl _) _), Bk.made _ _ _⟩ ?_
        obtain ⟨g8, hg8⟩ : ∃ g, wr.heap.size = g := ⟨_, rfl⟩
        rw [hg8]
        clear hg8 HL x0 x1
        rintro V8 ⟨hL, B8⟩
        have q0 := hL.blk.cell (v := .int .i64 c.b.t) 0 rfl
        have q1 := hL.blk.cell (v := .slice a' n' c') 1 rfl
        have ql := hL.blk.lt
        have z0 := B8.cell (v := .int .i64 e.id) 0 rfl
        have zl := B8.lt
        have hbw := (below_cc hL.bel HU.out.2.2.2).1
        obtain ⟨o, ok, hge, hmb⟩ := ex_get c.b c.id i a' n' c' V8 (HRG.out V8 hbw).1 (hL.ents HU.out.2.2.1) HV.out HE.out
        have HGE := Lib.hid hge
        have HB := Lib.hid (And.intro hL B8)
        clear hge hL B8 hbw
        go_wp2_with fail
        refine HGE.out.mono ?_
        rintro e' V8b ⟨rfl, hb2⟩
        have HB2 := Lib.hid (And.intro (HB.out.1.below hb2) (HB.out.2.below hb2))
        clear hb2 HGE HB q0 q1 ql z0 zl
        go_upto_region 9 with fail
        refine wp_name (fun X => (LA V1 g6 c.b.t (.slice (some ⟨b2, o2, none⟩) n cap) c.b.es X (.slice a' n' c') (dropW c.b c.id i).es ∧ Bk X g8 #[.int .i64 e.id, .slice xa xn xc] 43) ∧ Bk X V8b.heap.size #[.int .u8 o.k, .int .i64 o.a, .int .i64 o.b, .int .i64 o.c, .int .i64 o.d] 48) ⟨⟨HB2.out.1.below ((Below.refl _ _).alloc (Nat.le_refl _) _), HB2.out.2.below ((Below.refl _ _).alloc (Nat.le_refl _) _)⟩, Bk.made _ _ _⟩ ?_
        clear HB2
        rintro V9 ⟨⟨hL, B8⟩, B9⟩
        have B1 := HU.out.1.below hL.bel
        have s0 := B1.cell (v := .int .i64 c.id) 0 rfl
        have sl := B1.lt
        clear B1
        have t1 := B9.cell (v := .int .i64 o.a) 1 rfl
        have tl := B9.lt
        clear B9
        cases ok
        · rw [Bool.false_and] at hmb
          have HMB := Lib.hid hmb.symm
          clear hmb t1 tl
          rcases hw2 : e.cs.find? (keyC 2) with _ | v
          · have HW := Lib.hid hw2
            clear hw2
            go_upto_region 10 with fail
            have q0 := hL.blk.cell (v := .int .i64 c.b.t) 0 rfl
            have q1 := hL.blk.cell (v := .slice a' n' c') 1 rfl
            have ql := hL.blk.lt
            have z0 := B8.cell (v := .int .i64 e.id) 0 rfl
            have zl := B8.lt
            have hbw := (below_cc hL.bel HU.out.2.2.2).1
            have hun := ex_unset_none c.b c.id i a' n' c' V9 (HRG.out V9 hbw).1 (hL.ents HU.out.2.2.1) HV.out HE.out HW.out
            have HUN := Lib.hid hun
            have HL := Lib.hid hL
            clear hun hL B8 hbw s0 sl
            go_wp2_with fail
            refine HUN.out.mono ?_
            rintro e' V10 ⟨ua, un, uc, rfl, hF, hb2⟩
            have HL2 := Lib.hid (HL.out.below hb2)
            clear hb2 HUN HL hF q0 q1 ql z0 zl
            go_upto_region 13 with fail
            refine wp_name (fun X => LA V1 g6 c.b.t (.slice (some ⟨b2, o2, none⟩) n cap) c.b.es X (.slice a' n' c') (dropW c.b c.id i).es) (HL2.out.below ((Below.refl _ _).alloc (Nat.le_refl _) _)) ?_
            clear HL2
            rintro V13 hL
            have HL := Lib.hid hL
            clear hL
            go_wp2
            go_roundw
            case rel => exact ⟨i + 1, _, _, _, ⟨by omega, by go_num⟩, by rw [dropW_none HE.out HW.out]; exact HL.out⟩
            case measure => simp [intOf]; omega
          · have HW := Lib.hid hw2
            clear hw2
            go_upto_region 10 with fail
            have q0 := hL.blk.cell (v := .int .i64 c.b.t) 0 rfl
            have q1 := hL.blk.cell (v := .slice a' n' c') 1 rfl
            have ql := hL.blk.lt
            have z0 := B8.cell (v := .int .i64 e.id) 0 rfl
            have zl := B8.lt
            have hbw := (below_cc hL.bel HU.out.2.2.2).1
            have hun := ex_unset c.b c.id i a' n' c' V9 (HRG.out V9 hbw).1 (hL.ents HU.out.2.2.1) HV.out HE.out HMB.out HW.out
            have HUN := Lib.hid hun
            have HL := Lib.hid hL
            clear hun hL B8 hbw s0 sl
            go_wp2_with fail
            refine HUN.out.mono ?_
            rintro e' V10 ⟨ua, un, uc, rfl, hF, hb2⟩
            have HL2 := Lib.hid (And.intro (HL.out.below hb2) (hF.mono (base' := V1.heap.size) HL.out.bel.size))
            clear hb2 HUN HL hF q0 q1 ql z0 zl
            go_upto_region 12 with fail
            refine wp_name (fun X => LA V1 g6 c.b.t (.slice (some ⟨b2, o2, none⟩) n cap) c.b.es X (.slice a' n' c') (dropW c.b c.id i).es ∧ Fresh V1.heap.size X (.slice ua un uc) (dropW c.b c.id (i + 1)).es ∧ Bk X V10.heap.size #[.int .i64 c.b.t, .slice ua un uc] 26) ⟨HL2.out.1.below ((Below.refl _ _).alloc (Nat.le_refl _) _), HL2.out.2.below ((Below.refl _ _).alloc (Nat.le_refl _) _), Bk.made _ _ _⟩ ?_
            clear HL2
            rintro V12 ⟨hL, hF, B11⟩
            have q0 := B11.cell (v := .int .i64 c.b.t) 0 rfl
            have q1 := B11.cell (v := .slice ua un uc) 1 rfl
            have ql := B11.lt
            have b0 := hL.blk.cell (v := .int .i64 c.b.t) 0 rfl
            have b1 := hL.blk.cell (v := .slice a' n' c') 1 rfl
            have bl := hL.blk.lt
            have bf0 := hL.blk.free 0
            have bf1 := hL.blk.free 1
            have HX := Lib.hid (hL.store HG.out hF)
            clear hL hF B11
            go_upto_region 13 with fail
            refine wp_name (fun X => LA V1 g6 c.b.t (.slice (some ⟨b2, o2, none⟩) n cap) c.b.es X (.slice ua un uc) (dropW c.b c.id (i + 1)).es) HX.out ?_
            clear HX q0 q1 ql b0 b1 bl bf0 bf1
            rintro V13 hL
            have HL := Lib.hid hL
            clear hL
            go_wp2
            go_roundw
            case rel => exact ⟨i + 1, _, _, _, ⟨by omega, by go_num⟩, HL.out⟩
            case measure => simp [intOf]; omega
        · rw [Bool.true_and] at hmb
          by_cases hoa : o.a = c.id
          · rw [decide_eq_true hoa] at hmb
            have HMB := Lib.hid hmb.symm
            have d9 : (o.a == c.id) = true := by simp [hoa]
            clear hmb hoa
            have HL := Lib.hid hL
            clear hL B8
            go_wp2
            go_roundw
            case rel => exact ⟨i + 1, _, _, _, ⟨by omega, by go_num⟩, by rw [dropW_own HE.out HMB.out]; exact HL.out⟩
            case measure => simp [intOf]; omega
          · rw [decide_eq_false hoa] at hmb
            have HMB := Lib.hid hmb.symm
            have d9 : (o.a == c.id) = false := by simp [hoa]
            clear hmb hoa
            go_upto_region 10 with fail
            clear t1 tl d9
            rcases hw2 : e.cs.find? (keyC 2) with _ | v
            · have HW := Lib.hid hw2
              clear hw2
              go_upto_region 10 with fail
              have q0 := hL.blk.cell (v := .int .i64 c.b.t) 0 rfl
              have q1 := hL.blk.cell (v := .slice a' n' c') 1 rfl
              have ql := hL.blk.lt
              have z0 := B8.cell (v := .int .i64 e.id) 0 rfl
              have zl := B8.lt
              have hbw := (below_cc hL.bel HU.out.2.2.2).1
              have hun := ex_unset_none c.b c.id i a' n' c' V9 (HRG.out V9 hbw).1 (hL.ents HU.out.2.2.1) HV.out HE.out HW.out
              have HUN := Lib.hid hun
              have HL := Lib.hid hL
              clear hun hL B8 hbw s0 sl
              go_wp2_with fail
              refine HUN.out.mono ?_
              rintro e' V10 ⟨ua, un, uc, rfl, hF, hb2⟩
              have HL2 := Lib.hid (HL.out.below hb2)
              clear hb2 HUN HL hF q0 q1 ql z0 zl
              go_upto_region 13 with fail
              refine wp_name (fun X => LA V1 g6 c.b.t (.slice (some ⟨b2, o2, none⟩) n cap) c.b.es X (.slice a' n' c') (dropW c.b c.id i).es) (HL2.out.below ((Below.refl _ _).alloc (Nat.le_refl _) _)) ?_
              clear HL2
              rintro V13 hL
              have HL := Lib.hid hL
              clear hL
              go_wp2
              go_roundw
              case rel => exact ⟨i + 1, _, _, _, ⟨by omega, by go_num⟩, by rw [dropW_none HE.out HW.out]; exact HL.out⟩
              case measure => simp [intOf]; omega
            · have HW := Lib.hid hw2
              clear hw2
              go_upto_region 10 with fail
              have q0 := hL.blk.cell (v := .int .i64 c.b.t) 0 rfl
              have q1 := hL.blk.cell (v := .slice a' n' c') 1 rfl
              have ql := hL.blk.lt
              have z0 := B8.cell (v := .int .i64 e.id) 0 rfl
              have zl := B8.lt
              have hbw := (below_cc hL.bel HU.out.2.2.2).1
              have hun := ex_unset c.b c.id i a' n' c' V9 (HRG.out V9 hbw).1 (hL.ents HU.out.2.2.1) HV.out HE.out HMB.out HW.out
              have HUN := Lib.hid hun
              have HL := Lib.hid hL
              clear hun hL B8 hbw s0 sl
              go_wp2_with fail
              refine HUN.out.mono ?_
              rintro e' V10 ⟨ua, un, uc, rfl, hF, hb2⟩
              have HL2 := Lib.hid (And.intro (HL.out.below hb2) (hF.mono (base' := V1.heap.size) HL.out.bel.size))
              clear hb2 HUN HL hF q0 q1 ql z0 zl
              go_upto_region 12 with fail
              refine wp_name (fun X => LA V1 g6 c.b.t (.slice (some ⟨b2, o2, none⟩) n cap) c.b.es X (.slice a' n' c') (dropW c.b c.id i).es ∧ Fresh V1.heap.size X (.slice ua un uc) (dropW c.b c.id (i + 1)).es ∧ Bk X V10.heap.size #[.int .i64 c.b.t, .slice ua un uc] 26) ⟨HL2.out.1.below ((Below.refl _ _).alloc (Nat.le_refl _) _), HL2.out.2.below ((Below.refl _ _).alloc (Nat.le_refl _) _), Bk.made _ _ _⟩ ?_
              clear HL2
              rintro V12 ⟨hL, hF, B11⟩
              have q0 := B11.cell (v := .int .i64 c.b.t) 0 rfl
              have q1 := B11.cell (v := .slice ua un uc) 1 rfl
              have ql := B11.lt
              have b0 := hL.blk.cell (v := .int .i64 c.b.t) 0 rfl
              have b1 := hL.blk.cell (v := .slice a' n' c') 1 rfl
              have bl := hL.blk.lt
              have bf0 := hL.blk.free 0
              have bf1 := hL.blk.free 1
              have HX := Lib.hid (hL.store HG.out hF)
              clear hL hF B11
              go_upto_region 13 with fail
              refine wp_name (fun X => LA V1 g6 c.b.t (.slice (some ⟨b2, o2, none⟩) n cap) c.b.es X (.slice ua un uc) (dropW c.b c.id (i + 1)).es) HX.out ?_
              clear HX q0 q1 ql b0 b1 bl bf0 bf1
              rintro V13 hL
              have HL := Lib.hid hL
              clear hL
              go_wp2
              go_roundw
              case rel => exact ⟨i + 1, _, _, _, ⟨by omega, by go_num⟩, HL.out⟩
              case measure => simp [intOf]; omega
      · obtain rfl : n = i := by omega
        obtain ⟨W1, hW1⟩ : ∃ W, dropW c.b c.id n = W := ⟨_, rfl⟩
        have hWt : W1.t = c.b.t := by rw [← hW1]; rfl
        have hWV : Valid W1 := by rw [← hW1]; exact drop_valid HV.out c.id n
        have hWO : OwnVel c.id W1 := by rw [← hW1, HNL.out]; exact dropW_vel HV.out c.id
        rw [hW1] at hL
        have htk := hWV.1
        clear hW1
        obtain ⟨⟨R, z⟩, hr⟩ : ∃ r, predR W1 c.id c.gx c.gy x = r := ⟨_, rfl⟩
        have hbw := (below_cc hL.bel HU.out.2.2.2).1
        have B1 := HU.out.1.below hL.bel
        have B3 := HU.out.2.1.below hL.bel
        have s0 := B1.cell (v := .int .i64 c.id) 0 rfl
        have s1 := B1.cell (v := .int .i64 c.gx) 1 rfl
        have s2 := B1.cell (v := .int .i64 c.gy) 2 rfl
        have s3 := B1.cell (v := .int .i64 c.b.t) 3 rfl
        have s4 := B1.cell (v := .slice a n cap) 4 rfl
        have s5 := B1.cell (v := .int .i64 c.ack) 5 rfl
        have s6 := B1.cell (v := .slice pa pn pc) 6 rfl
        have sl := B1.lt
        have j0 := B3.cell (v := .int .i64 x.c) 0 rfl
        have j1 := B3.cell (v := .int .i64 x.s) 1 rfl
        have j2 := B3.cell (v := .int .i64 x.t) 2 rfl
        have j3 := B3.cell (v := .int .i64 x.mx) 3 rfl
        have j4 := B3.cell (v := .int .i64 x.my) 4 rfl
        have j5 := B3.cell (v := .bool x.fire) 5 rfl
        have j6 := B3.cell (v := .int .i64 x.ax) 6 rfl
        have j7 := B3.cell (v := .int .i64 x.ay) 7 rfl
        have j8 := B3.cell (v := .int .i64 x.seen) 8 rfl
        have j9 := B3.cell (v := .int .i64 x.part) 9 rfl
        have jl := B3.lt
        have q0 := hL.blk.cell (v := .int .i64 c.b.t) 0 rfl
        have q1 := hL.blk.cell (v := .slice a' n' c') 1 rfl
        have ql := hL.blk.lt
        have hpk := ex_pred W1 a' n' c' c.id c.gx c.gy x wr (HRG.out wr hbw).1 (HRG.out wr hbw).2.1 (HRG.out wr hbw).2.2 (hL.ents HU.out.2.2.1) HXI.out hr
        rw [hWt] at hpk
        have HPK := Lib.hid hpk
        have HW := Lib.hid (And.intro hWt (And.intro hWV hWO))
        have HB := Lib.hid (And.intro hL hbw)
        have HR := Lib.hid hr
        clear hpk hbw hL B1 B3 hWt hWV hWO hr
        go_wp2_with fail
        refine HPK.out.mono ?_
        rintro e' V14 ⟨ra, rn, rc, rfl, hF, hb2⟩
        have HB2 := Lib.hid (And.intro (HB.out.1.below hb2) (And.intro (below_cc hb2 HB.out.2) hF.ents))
        clear hb2 HPK HB hF s0 s1 s2 s3 s4 s5 s6 sl j0 j1 j2 j3 j4 j5 j6 j7 j8 j9 jl q0 q1 ql
        by_cases hz : z = 0
        · subst hz
          go_upto_region 17 with fail
          refine wp_name (fun X => LA V1 g6 c.b.t (.slice a n cap) c.b.es X (.slice a' n' c') W1.es ∧ Bk X V14.heap.size #[.int .i64 R.t, .slice ra rn rc] 26 ∧ EntsAt X (.slice ra rn rc) R.es) ⟨HB2.out.1.below ((Below.refl _ _).alloc (Nat.le_refl _) _), Bk.made _ _ _, EntsAt.below HB2.out.2.2 ((Below.refl _ _).alloc (Nat.le_refl _) _)⟩ ?_
          obtain ⟨g13, hg13⟩ : ∃ g, V14.heap.size = g := ⟨_, rfl⟩
          rw [hg13]
          clear hg13 HB2
          rintro V17 ⟨hL, B13, hE⟩
          obtain ⟨hVW, htick, hRW, hokp⟩ := predR_ok HR.out
          obtain ⟨hnb, hgg⟩ := okP_gen hokp
          have hVR : Valid R := by rw [hRW]; exact pred_valid hVW htick
          have HP := Lib.hid (And.intro hRW (And.intro hVR (And.intro hgg (And.intro htick (exact_plain HR.out HW.out.2.2)))))
          have hbw := (below_cc hL.bel HU.out.2.2.2).1
          have hpk := ex_own W1 a' n' c' c.id V17 (HRG.out V17 hbw).1 (hL.ents HU.out.2.2.1) HW.out.2.1 hnb
          rw [HW.out.1] at hpk
          have HPK := Lib.hid hpk
          have B1 := HU.out.1.below hL.bel
          have s0 := B1.cell (v := .int .i64 c.id) 0 rfl
          have sl := B1.lt
          have q0 := hL.blk.cell (v := .int .i64 c.b.t) 0 rfl
          have q1 := hL.blk.cell (v := .slice a' n' c') 1 rfl
          have ql := hL.blk.lt
          have HB := Lib.hid (And.intro hL (And.intro B13 hE))
          clear hpk hbw hL B13 hE B1 hVW htick hRW hokp hnb hgg hVR
          go_wp2_with fail
          refine HPK.out.mono ?_
          rintro e' V18 ⟨oa, on, oc, rfl, hI, hb2⟩
          clear s0 sl q0 q1 ql
          have hL := HB.out.1.below hb2
          have hU2 := And.intro (HU.out.1.below hL.bel) (And.intro (HU.out.2.1.below hL.bel) (And.intro (HB.out.2.1.below hb2) (And.intro (EntsAt.below HB.out.2.2 hb2) (And.intro hI (And.intro (hL.ents HU.out.2.2.1) (below_cc hL.bel HU.out.2.2.2).1)))))
          have HU2 := Lib.hid hU2
          clear hU2 HB hb2 HPK hI
          go_upto_region 18 with fail
          have q0 := hL.blk.cell (v := .int .i64 c.b.t) 0 rfl
          have q1 := hL.blk.cell (v := .slice a' n' c') 1 rfl
          have ql := hL.blk.lt
          clear hL
          go_upto_region 19 with fail
          refine wp_name (fun X => LA V18 V18.heap.size c.b.t (.slice a' n' c') W1.es X (.slice a' n' c') W1.es) (LA.start _ _ _ _) ?_
          obtain ⟨g17, hg17⟩ : ∃ g, V18.heap.size = g := ⟨_, rfl⟩
          rw [hg17]
          have HG2 := Lib.hid (Nat.le_of_eq hg17)
          clear hg17 q0 q1 ql
          rintro V19 hL
          have HL := Lib.hid hL
          clear hL
          have hbd := lim_bd x.mx x.my
          have HLM := Lib.hid (fun V => limited_any x.mx x.my V HN.out.1 HN.out.2)
          obtain ⟨X, hXe⟩ : ∃ z, limX x.mx x.my = z := ⟨_, rfl⟩
          obtain ⟨Y, hYe⟩ : ∃ z, limY x.mx x.my = z := ⟨_, rfl⟩
          rw [hXe, hYe] at hbd HP HLM
          have HBD := Lib.hid hbd
          have hon : on = (ownM W1 c.id).length := ListAt.len HU2.out.2.2.2.2.1
          have hon64 : on ≤ 64 := by
            rw [hon]
            have h1 : (ownM W1 c.id).length ≤ W1.es.length := by
              unfold ownM
              rw [List.length_map]
              exact List.length_filter_le _ _
            have := HW.out.2.1.2.1
            omega
          have HON := Lib.hid hon
          clear hbd hXe hYe hon
          go_wp2
          go_loopw [121] (fun v121 wr => ∃ (j : Nat) (ma : Option Addr) (mn mc : Nat), (j ≤ on ∧ v121 = .int .i64 j) ∧ LA V18 g17 c.b.t (.slice a' n' c') W1.es wr (.slice ma mn mc) (mvW W1 X Y ((ownM W1 c.id).take j)).es) (fun v121 _ => on - (intOf v121).toNat)
          case atStart => exact ⟨0, a', n', c', ⟨by omega, rfl⟩, by rw [List.take_zero, mvW_nil]; exact HL.out⟩
          case round =>
            clear HL
            obtain ⟨j, ma, mn, mc, ⟨hj, rfl⟩, hL⟩ := hrel
            by_cases hlt : j < on
            · obtain ⟨v, hv⟩ := at_lt (l := ownM W1 c.id) (i := j) (by rw [← HON.out]; exact hlt)
              obtain ⟨k, e, he, hev, heo⟩ := own_ent hv
              subst hev
              obtain ⟨b4, o4, hoa, hcl⟩ := ints_cell' HU2.out.2.2.2.2.1 hv
              subst hoa
              replace hcl := cell_later hL.bel hcl
              have HE := Lib.hid (And.intro hv (And.intro he heo))
              clear hv he heo
              go_upto_region 22 with fail
              clear hcl
              have B13 := HU2.out.2.2.1.below hL.bel
              have q0 := B13.cell (v := .int .i64 R.t) 0 rfl
              have q1 := B13.cell (v := .slice ra rn rc) 1 rfl
              have ql := B13.lt
              have hbw := (below_cc hL.bel HU2.out.2.2.2.2.2.2).1
              obtain ⟨hv1, hv2⟩ := ex_vel HW.out.2.1 HP.out.1 HP.out.2.1 HE.out.2.1 ra rn rc wr (HRG.out wr hbw).1 (EntsAt.below HU2.out.2.2.2.1 hL.bel)
              clear hbw B13
              have HL := Lib.hid hL
              clear hL
              rcases hw2 : e.cs.find? (keyC 2) with _ | v
              · have HPK := Lib.hid (hv1 hw2)
                clear hv1 hv2
                go_wp2_with fail
                refine HPK.out.mono ?_
                rintro e' V22 ⟨rfl, hb2⟩
                have HW2 := Lib.hid hw2
                have HL2 := Lib.hid (HL.out.below hb2)
                clear hb2 HPK HL q0 q1 ql hw2
                go_upto_region 23 with fail
                refine wp_name (fun Z => LA V18 g17 c.b.t (.slice a' n' c') W1.es Z (.slice ma mn mc) (mvW W1 X Y ((ownM W1 c.id).take j)).es) (HL2.out.below ((Below.refl _ _).alloc (Nat.le_refl _) _)) ?_
                clear HL2
                rintro V23 hL
                have HL := Lib.hid hL
                clear hL
                go_wp2
                go_roundw
                case rel => exact ⟨j + 1, _, _, _, ⟨by omega, by go_num⟩, by rw [mvW_stay HW.out.2.1 HE.out.1 HE.out.2.1 HW2.out]; exact HL.out⟩
                case measure => simp [intOf]; omega
              · obtain ⟨u, hgu, hux⟩ := hv2 v hw2
                have HPK := Lib.hid hgu
                have HW2 := Lib.hid (And.intro hw2 hux)
                clear hv1 hv2 hw2 hgu hux
                go_wp2_with fail
                refine HPK.out.mono ?_
                rintro e' V22 ⟨rfl, hb2⟩
                have HL2 := Lib.hid (HL.out.below hb2)
                clear hb2 HPK HL q0 q1 ql
                go_upto_region 24 with fail
                refine wp_name (fun X => Below V22.heap.size V22 X ∧ Bk X V22.heap.size #[.int .u8 u.k, .int .i64 u.a, .int .i64 u.b, .int .i64 u.c, .int .i64 u.d] 48) ⟨((Below.refl _ _).alloc (Nat.le_refl _) _), Bk.made _ _ _⟩ ?_
                obtain ⟨g20, hg20⟩ : ∃ g, V22.heap.size = g := ⟨_, rfl⟩
                have HG3 := Lib.hid (Nat.le_of_eq hg20)
                rw [hg20]
                rintro V24 ⟨hb3, B20⟩
                rw [← hg20] at hb3
                clear hg20
                have B3 := HU2.out.2.1.below (HL2.out.below hb3).bel
                have j3 := B3.cell (v := .int .i64 x.mx) 3 rfl
                have j4 := B3.cell (v := .int .i64 x.my) 4 rfl
                have jl := B3.lt
                have HB := Lib.hid (And.intro hb3 B20)
                clear hb3 B20 B3
                go_wp2_with fail
                refine (HLM.out _).mono ?_
                rintro e' V24b ⟨rfl, hb2⟩
                have hb3 := (below_cc hb2 HB.out.1).1
                have B20 := HB.out.2.below hb2
                clear hb2 HB j3 j4 jl
                have u0 := B20.cell (v := .int .u8 u.k) 0 rfl
                have u1 := B20.cell (v := .int .i64 u.a) 1 rfl
                have u2 := B20.cell (v := .int .i64 u.b) 2 rfl
                have u3 := B20.cell (v := .int .i64 u.c) 3 rfl
                have u4 := B20.cell (v := .int .i64 u.d) 4 rfl
                have ul := B20.lt
                have uf0 := B20.free 0
                have uf1 := B20.free 1
                have uf2 := B20.free 2
                have uf3 := B20.free 3
                have uf4 := B20.free 4
                have HX := Lib.hid (show Below V22.heap.size V22 ((V24b.setCell ⟨g20, 1, none⟩ (.int .i64 X)).setCell ⟨g20, 2, none⟩ (.int .i64 Y)) ∧ Bk ((V24b.setCell ⟨g20, 1, none⟩ (.int .i64 X)).setCell ⟨g20, 2, none⟩ (.int .i64 Y)) g20 #[.int .u8 u.k, .int .i64 X, .int .i64 Y, .int .i64 u.c, .int .i64 u.d] 48 from ⟨(hb3.setCell (p := ⟨g20, 1, none⟩) HG3.out _).setCell (p := ⟨g20, 2, none⟩) HG3.out _, (B20.put 1 (.int .i64 X)).put 2 (.int .i64 Y)⟩)
                clear hb3 B20
                go_upto_region 25 with fail
                refine wp_name (fun Z => Below V22.heap.size V22 Z ∧ Bk Z g20 #[.int .u8 u.k, .int .i64 X, .int .i64 Y, .int .i64 u.c, .int .i64 u.d] 48) HX.out ?_
                clear HX u0 u1 u2 u3 u4 ul uf0 uf1 uf2 uf3 uf4
                rintro V25 ⟨hb3, B20⟩
                have hL := HL2.out.below hb3
                clear HL2 hb3
                have u0 := B20.cell (v := .int .u8 u.k) 0 rfl
                have u1 := B20.cell (v := .int .i64 X) 1 rfl
                have u2 := B20.cell (v := .int .i64 Y) 2 rfl
                have u3 := B20.cell (v := .int .i64 u.c) 3 rfl
                have u4 := B20.cell (v := .int .i64 u.d) 4 rfl
                have ul := B20.lt
                have q0 := hL.blk.cell (v := .int .i64 c.b.t) 0 rfl
                have q1 := hL.blk.cell (v := .slice ma mn mc) 1 rfl
                have ql := hL.blk.lt
                have hbw := (below_cc hL.bel HU2.out.2.2.2.2.2.2).1
                have hpk := ex_set W1 X Y c.id HBD.out.1 HBD.out.2 ma mn mc V25 (HRG.out V25 hbw).1 HW.out.2.1 (hL.ents HU2.out.2.2.2.2.2.1) HE.out.1 HE.out.2.1 HW2.out.1 (HW2.out.2 X Y)
                rw [HW.out.1] at hpk
                have HPK := Lib.hid hpk
                have HL := Lib.hid hL
                clear hpk hbw hL B20
                go_wp2_with fail
                refine HPK.out.mono ?_
                rintro e' V25b ⟨sa, sn, sc, rfl, hF, hb2⟩
                have HL2 := Lib.hid (And.intro (HL.out.below hb2) (hF.mono (base' := V18.heap.size) HL.out.bel.size))
                clear hb2 HPK HL hF q0 q1 ql u0 u1 u2 u3 u4 ul
                go_upto_region 28 with fail
                refine wp_name (fun Z => LA V18 g17 c.b.t (.slice a' n' c') W1.es Z (.slice ma mn mc) (mvW W1 X Y ((ownM W1 c.id).take j)).es ∧ Fresh V18.heap.size Z (.slice sa sn sc) (mvW W1 X Y ((ownM W1 c.id).take (j + 1))).es ∧ Bk Z V25b.heap.size #[.int .i64 c.b.t, .slice sa sn sc] 26) ⟨HL2.out.1.below ((Below.refl _ _).alloc (Nat.le_refl _) _), HL2.out.2.below ((Below.refl _ _).alloc (Nat.le_refl _) _), Bk.made _ _ _⟩ ?_
                clear HL2
                rintro V28 ⟨hL, hF, B22⟩
                have q0 := B22.cell (v := .int .i64 c.b.t) 0 rfl
                have q1 := B22.cell (v := .slice sa sn sc) 1 rfl
                have ql := B22.lt
                have b0 := hL.blk.cell (v := .int .i64 c.b.t) 0 rfl
                have b1 := hL.blk.cell (v := .slice ma mn mc) 1 rfl
                have bl := hL.blk.lt
                have bf0 := hL.blk.free 0
                have bf1 := hL.blk.free 1
                have HX := Lib.hid (hL.store HG2.out hF)
                clear hL hF B22
                go_upto_region 29 with fail
                refine wp_name (fun Z => LA V18 g17 c.b.t (.slice a' n' c') W1.es Z (.slice sa sn sc) (mvW W1 X Y ((ownM W1 c.id).take (j + 1))).es) HX.out ?_
                clear HX q0 q1 ql b0 b1 bl bf0 bf1
                rintro V29 hL
                have HL := Lib.hid hL
                clear hL
                go_wp2
                go_roundw
                case rel => exact ⟨j + 1, _, _, _, ⟨by omega, by go_num⟩, HL.out⟩
                case measure => simp [intOf]; omega
            · obtain rfl : on = j := by omega
              obtain ⟨M, hM2⟩ : ∃ M, mvW W1 X Y (ownM W1 c.id) = M := ⟨_, rfl⟩
              rw [List.take_of_length_le (by rw [← HON.out]; exact Nat.le_refl _), hM2] at hL
              have hpl := HP.out.2.2.2.2
              rw [hM2] at hpl
              have hMt : M.t = c.b.t := by rw [← hM2]; exact HW.out.1
              have hMV : Valid M := by rw [← hM2]; exact mv_valid HBD.out.1 HBD.out.2 HW.out.2.1 _
              have hbw := (below_cc hL.bel HU2.out.2.2.2.2.2.2).1
              have hpk := ex_world M hMV ma mn mc c.gx c.gy HP.out.2.2.1 wr (HRG.out wr hbw).2.1 (HRG.out wr hbw).2.2 (hL.ents HU2.out.2.2.2.2.2.1)
              rw [hMt] at hpk
              have HPK := Lib.hid hpk
              have B1 := HU2.out.1.below hL.bel
              have s1 := B1.cell (v := .int .i64 c.gx) 1 rfl
              have s2 := B1.cell (v := .int .i64 c.gy) 2 rfl
              have sl := B1.lt
              have q0 := hL.blk.cell (v := .int .i64 c.b.t) 0 rfl
              have q1 := hL.blk.cell (v := .slice ma mn mc) 1 rfl
              have ql := hL.blk.lt
              have HB := Lib.hid (And.intro hL.bel hpl)
              clear hpk hbw hL B1 hMt hMV hM2 hpl
              go_wp2_with fail
              refine HPK.out.mono ?_
              rintro e' V30 ⟨wa, wn, wc, sa, sn, sc, rfl, hF, hb2⟩
              have HB2 := Lib.hid (And.intro (below_cc hb2 HB.out.1).1 (And.intro (hF.mono (base' := V18.heap.size) HB.out.1.size) HB.out.2))
              clear hb2 HPK HB hF q0 q1 ql s1 s2 sl
              have wt : IntKind.i64.wrap (c.b.t + 1) = c.b.t + 1 := by have h1 := HW.out.1; have h2 := HP.out.2.2.2.1; have h3 := HV.out.1.1; rw [IntKind.wrap_i64]; omega
              go_upto_region 31 with fail
              obtain ⟨g24, hg24⟩ : ∃ g, V30.heap.size = g := ⟨_, rfl⟩
              have HG4 := Lib.hid (show V18.heap.size ≤ g24 from by rw [← hg24]; exact HB2.out.1.size)
              refine wp_name (fun Z => Below V18.heap.size V18 Z ∧ Fresh V18.heap.size Z (.slice wa wn wc) (worldM c.gx c.gy M.es) ∧ Bk Z V30.heap.size #[.int .i64 c.b.t, .slice wa wn wc] 26) ⟨HB2.out.1.alloc HB2.out.1.size _, HB2.out.2.1.below ((Below.refl _ _).alloc (Nat.le_refl _) _), Bk.made _ _ _⟩ ?_
              rw [hg24]
              have HPN := Lib.hid HB2.out.2.2
              clear hg24 HB2
              rintro V31 ⟨hb3, hF, B24⟩
              have q0 := B24.cell (v := .int .i64 c.b.t) 0 rfl
              have q1 := B24.cell (v := .slice wa wn wc) 1 rfl
              have ql := B24.lt
              have qf0 := B24.free 0
              have HX := Lib.hid (And.intro (hb3.setCell (p := ⟨g24, 0, none⟩) HG4.out (.int .i64 (c.b.t + 1))) (And.intro (hF.set (p := ⟨g24, 0, none⟩) B24 (by decide) (by decide) (.int .i64 (c.b.t + 1))) (B24.put 0 (.int .i64 (c.b.t + 1)))))
              clear hb3 hF B24
              go_upto_region 32 with fail
              refine wp_name (fun Z => Below V18.heap.size V18 Z ∧ Fresh V18.heap.size Z (.slice wa wn wc) (worldM c.gx c.gy M.es) ∧ Bk Z g24 #[.int .i64 (c.b.t + 1), .slice wa wn wc] 26) HX.out ?_
              clear HX q0 q1 ql qf0 wt
              rintro V32 ⟨hb3, hF, B24⟩
              have hRe : R = ⟨c.b.t + 1, worldM c.gx c.gy M.es⟩ := by rw [HPN.out, HW.out.1]
              have hE2 := EntsAt.below HU2.out.2.2.2.1 hb3
              have B13 := HU2.out.2.2.1.below hb3
              rw [hRe] at hE2 B13
              have SM := Lib.hid (sameW_any ⟨c.b.t + 1, worldM c.gx c.gy M.es⟩ ra rn rc wa wn wc V32 hE2 hF.ents)
              unfold Wv at SM
              simp only at SM B13
              have y0 := B13.cell (v := .int .i64 (c.b.t + 1)) 0 rfl
              have y1 := B13.cell (v := .slice ra rn rc) 1 rfl
              have yl := B13.lt
              have q0 := B24.cell (v := .int .i64 (c.b.t + 1)) 0 rfl
              have q1 := B24.cell (v := .slice wa wn wc) 1 rfl
              have ql := B24.lt
              have HB := Lib.hid (below_cc hb3 HU2.out.2.2.2.2.2.2).1
              clear hRe hE2 B13 B24 hb3 hF
              go_wp2_with fail
              refine SM.out.mono ?_
              rintro e' V33 ⟨rfl, hb2⟩
              have hb := (below_cc hb2 HB.out).1
              clear hb2 HB SM y0 y1 yl q0 q1 ql
              go_wp2_with fail
              refine (AWK.out _ hb).mono ?_
              rintro e VA ⟨rfl, hbA⟩
              have hbE := (below_cc hbA hb).1
              clear hbA
              go_wp2
              go_returns
              exact ⟨rfl, hbE⟩
        · have d0 : (z == 0) = false := by simp; exact hz
          have HB := Lib.hid (HB2.out.2.1.1.alloc HB2.out.2.1.2 (.cells #[.int .i64 R.t, .slice ra rn rc] 26))
          clear HB2
          go_upto_region 16 with fail
          refine wp_name (fun X => Below w.heap.size w X) HB.out ?_
          clear HB
          rintro V16 hb
          go_wp2_with fail
          refine (AWK.out _ hb).mono ?_
          rintro e VA ⟨rfl, hbA⟩
          have hbE := (below_cc hbA hb).1
          clear hbA
          go_wp2
          go_returns
          exact ⟨rfl, hbE⟩
set_option maxHeartbeats 8000000 in
theorem exact_big (id gx gy t ack : Int) (a : Option Addr) (n cap : Nat) (pa : Option Addr) (pn pc : Nat) (x : Inp) (hX : I64 x.mx ∧ I64 x.my) (w : World) (hR : RG w) (hM : RM w) (hw : 2 ≤ w.heap.size) (h : EntsRaw w (.slice a n cap)) (hp : InpsRaw w (.slice pa pn pc)) (hbig : ¬ (SmallE w a n ∧ pn ≤ 66)) :
    Calls Tryz.prog 8 #[.agg #[.int .i64 id, .int .i64 gx, .int .i64 gy, .int .i64 t, .slice a n cap, .int .i64 ack, .slice pa pn pc], Iv x] w fun e w' => e = .returned (.bool true) ∧ Below w.heap.size w w' := by
  have AWK := Lib.hid (fun V (hV : Below w.heap.size w V) => awake_any V (hR.below hV) (hM.low hV hw) (Nat.le_trans hw hV.size))
  have FW := Lib.hid (fun V (hV : Below w.heap.size w V) => Few_big id gx gy t ack a n cap pa pn pc V (h.below hV) (SlRaw.below (fun b o ⟨x, hx, hi⟩ => ⟨x, InpAt.below' hV b o x hx, hi⟩) hp) (fun q => hbig ⟨q.1.back h hV, q.2⟩))
  clear hR hM hw h hp hbig
  unfold Iv
  go_enter Tryz.func8, Tryz.ntmps8
  have HB1 := Lib.hid (show Bk ((w.alloc (.cells #[.int .i64 id, .int .i64 gx, .int .i64 gy, .int .i64 t, .slice a n cap, .int .i64 ack, .slice pa pn pc] 29)).alloc (.cells #[.int .i64 x.c, .int .i64 x.s, .int .i64 x.t, .int .i64 x.mx, .int .i64 x.my, .bool x.fire, .int .i64 x.ax, .int .i64 x.ay, .int .i64 x.seen, .int .i64 x.part] 37)) w.heap.size #[.int .i64 id, .int .i64 gx, .int .i64 gy, .int .i64 t, .slice a n cap, .int .i64 ack, .slice pa pn pc] 29 ∧ Below w.heap.size w ((w.alloc (.cells #[.int .i64 id, .int .i64 gx, .int .i64 gy, .int .i64 t, .slice a n cap, .int .i64 ack, .slice pa pn pc] 29)).alloc (.cells #[.int .i64 x.c, .int .i64 x.s, .int .i64 x.t, .int .i64 x.mx, .int .i64 x.my, .bool x.fire, .int .i64 x.ax, .int .i64 x.ay, .int .i64 x.seen, .int .i64 x.part] 37)) from ⟨(Bk.made _ _ _).alloc _, by go_grown⟩)
  go_wp2_with fail
  refine (FW.out _ HB1.out.2).mono ?_
  rintro e V1 ⟨rfl, hb1⟩
  obtain ⟨hb, hs⟩ := below_cc hb1 HB1.out.2
  clear hb1 HB1 FW
  go_wp2_with fail
  refine (AWK.out _ hb).mono ?_
  rintro e VA ⟨rfl, hbA⟩
  have hbE := (below_cc hbA hb).1
  clear hbA
  go_wp2
  go_returns
  exact ⟨rfl, hbE⟩
theorem cexact_law (c : Cli) (a : Option Addr) (n cap : Nat) (pa : Option Addr) (pn pc : Nat) (x : Inp) (hX : I64 x.mx ∧ I64 x.my) (w : World) (hR : RG w) (hM : RM w) (hw : 2 ≤ w.heap.size) (h : EntsAt w (.slice a n cap) c.b.es) (hp : InpsAt w (.slice pa pn pc) c.p) (hcap : pn ≤ pc) (hx : I64s c.p) (hid : I64 c.id ∧ I64 c.gx ∧ I64 c.gy ∧ I64 c.b.t ∧ I64 c.ack) :
    Calls Tryz.prog 8 #[Cv c a n cap pa pn pc, Iv x] w fun e w' => e = .returned (.bool true) ∧ Below w.heap.size w w' := by
  by_cases hn : (-1099511627776 ≤ x.mx ∧ x.mx ≤ 1099511627776) ∧ (-1099511627776 ≤ x.my ∧ x.my ≤ 1099511627776)
  · by_cases hv : Valid c.b
    · exact exact_2 c a n cap pa pn pc x hX w hR hM hw h hp hcap hx hid hn hv
    · exact exact_1 c a n cap pa pn pc x hX w hR hM hw h hp hcap hx hid hn hv
  · exact exact_0 c a n cap pa pn pc x hX w hR hM hw h hp hcap hx hid hn
end Go.Proofs.YtlcjkomfjgddeaaGreatDoor
