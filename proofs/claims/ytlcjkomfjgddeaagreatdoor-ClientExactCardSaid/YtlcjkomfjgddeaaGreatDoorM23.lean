/- step.Back. -/
import Derived.Test.YtlcjkomfjgddeaaGreatDoorM21
import Derived.Test.YtlcjkomfjgddeaaGreatDoorM22
set_option linter.unusedVariables false
set_option linter.unusedSimpArgs false
namespace Go.Proofs.YtlcjkomfjgddeaaGreatDoor
open Go Go.RowKit Go.Sort
set_option maxRecDepth 100000
attribute [local go_sem] opLow opUpon opLow2 opUpon2

structure BackInv (w : World) (t : Int) (ea : Option Addr) (en ec : Nat) (sa : Option Addr) (sn sc : Nat) (gx gy : Int) (out : Value) (es : List Ent) (ss : List Value) (W : World) : Prop where
  b2 : Bk W w.heap.size #[.int .i64 t, .slice ea en ec] 26
  b3 : Bk W (w.heap.size + 1) #[.slice sa sn sc, .slice none 0 0, .int .i64 gx, .int .i64 gy] 106
  b4 : Bk W (w.heap.size + 1 + 1) #[.int .i64 0, .slice none 0 0] 26
  b5 : Bk W (w.heap.size + 1 + 1 + 1) #[.int .i64 t, out] 26
  fr : FreshS w.heap.size W out es ss
  bel : Below w.heap.size w W
theorem BackInv.below {w : World} {t : Int} {ea : Option Addr} {en ec : Nat} {sa : Option Addr} {sn sc : Nat} {gx gy : Int} {out : Value} {es : List Ent} {ss : List Value} {W W' : World} (h : BackInv w t ea en ec sa sn sc gx gy out es ss W) (hb : Below W.heap.size W W') : BackInv w t ea en ec sa sn sc gx gy out es ss W' :=
  ⟨h.b2.below hb, h.b3.below hb, h.b4.below hb, h.b5.below hb, h.fr.below hb, (below_cc hb h.bel).1⟩
theorem BackInv.turn {w : World} {t : Int} {ea : Option Addr} {en ec : Nat} {sa : Option Addr} {sn sc : Nat} {gx gy : Int} {out : Value} {M : List Ent} {ss : List Value} {e : Ent} {gc cn cc : Nat} {cs' : List Cmp} {W W' : World} (h : BackInv w t ea en ec sa sn sc gx gy out (M ++ [e]) (ss ++ [.slice (some ⟨gc, 0, none⟩) cn cc]) W) (hs : ss.length = M.length) (hg : W.grownBy W' (some gc)) (hr : RowC w.heap.size W' (.slice (some ⟨gc, 0, none⟩) cn cc) cs') (hcur : ∃ cur, Bk W gc cur 48) (hgc : w.heap.size ≤ gc) :
    BackInv w t ea en ec sa sn sc gx gy out (M ++ [⟨e.id, cs'⟩]) (ss ++ [.slice (some ⟨gc, 0, none⟩) cn cc]) W' := by
  obtain ⟨cur, hcur⟩ := hcur
  have n2 := bk_types h.b2 hcur (by decide)
  have n3 := bk_types h.b3 hcur (by decide)
  have n4 := bk_types h.b4 hcur (by decide)
  have n5 := bk_types h.b5 hcur (by decide)
  have h1 := h.fr.turn (i := M.length) (g := gc) (n := cn) (cap := cc) (e := e) (e' := ⟨e.id, cs'⟩) (by simp) (by rw [List.getElem?_append_right (by omega), hs]; simp) hg hr rfl
  rw [List.set_append_right _ _ (Nat.le_refl _)] at h1
  simp only [Nat.sub_self, List.set_cons_zero] at h1
  exact ⟨(hg.block _ h.b2.lt (fun e => n2 (Option.some.inj e))).trans h.b2, (hg.block _ h.b3.lt (fun e => n3 (Option.some.inj e))).trans h.b3, (hg.block _ h.b4.lt (fun e => n4 (Option.some.inj e))).trans h.b4, (hg.block _ h.b5.lt (fun e => n5 (Option.some.inj e))).trans h.b5, h1, h.bel.grown hg h.bel.size (fun k e => by cases e; exact hgc)⟩
def BackPost (w : World) (t : Int) (es : List Ent) (L : List Bdy) (e : Ending) (w' : World) : Prop :=
  ∃ (a : Option Addr) (n c : Nat), e = .returned (Wv t a n c) ∧ Fresh w.heap.size w' (.slice a n c) (es.map (backE L)) ∧ Below w.heap.size w w'
theorem FreshS.push {base : Nat} {w w2 : World} {v' s : Value} {es : List Ent} {e : Ent} {ss : List Value} (h : ss.length = es.length ∧ (∀ (i : Nat) (s : Value) (e : Ent), ss[i]? = some s → es[i]? = some e → RowC base w s e.cs) ∧ Apart2 ss ∧ w2.ownsRow base 43 2 v' (es.length + 1) (evs ((es.map Ent.id).zip ss) ++ ev (e.id, s)))
    (hl : es.length + 1 < 1099511627776) (hs : RowC w.heap.size w2 s e.cs) (hb0 : base ≤ w.heap.size) (hb : ∀ b, b < w.heap.size → (∃ cs, w.heap[b]? = some (.cells cs 48)) → w2.heap[b]? = w.heap[b]?) : FreshS base w2 v' (es ++ [e]) (ss ++ [s]) := by
  obtain ⟨h1, h3, h4, h2⟩ := h
  refine ⟨by simpa using hl, by simp [h1], ?_, fun i t x ht hx => ?_, fun i j a b c hij ha hb' hc => ?_⟩
  · rw [List.map_append, List.map_cons, List.map_nil, List.zip_append (by simp [h1]), List.length_append]
    unfold evs at h2 ⊢
    rw [List.flatMap_append]
    simpa using h2
  · rcases Nat.lt_or_ge i es.length with hi | hi
    · rw [List.getElem?_append_left (by omega)] at ht
      rw [List.getElem?_append_left hi] at hx
      have hr := h3 i t x ht hx
      refine ⟨⟨hr.1.1, ?_⟩, hr.2⟩
      rcases hr.1.2 with g1 | ⟨g, cap, cur, hv, hg, hh, r⟩
      · exact .inl g1
      · exact .inr ⟨g, cap, cur, hv, hg, (hb g (Array.getElem?_eq_some_iff.1 hh).1 ⟨cur, hh⟩).trans hh, r⟩
    · rw [List.getElem?_append_right (by omega)] at ht
      rw [List.getElem?_append_right hi] at hx
      rw [h1] at ht
      have e0 : i - es.length = 0 := by
        have := (List.getElem?_eq_some_iff.1 hx).1
        simp at this; omega
      rw [e0] at ht hx
      simp only [List.getElem?_cons_zero, Option.some.injEq] at ht hx
      subst ht hx
      exact hs.mono hb0
  · have hjl := (List.getElem?_eq_some_iff.1 hb').1
    simp only [List.length_append, List.length_cons, List.length_nil] at hjl
    rw [List.getElem?_append_left (by omega)] at ha
    rcases Nat.lt_or_ge j ss.length with hj | hj
    · rw [List.getElem?_append_left hj] at hb'
      exact h4 i j a b c hij ha hb' hc
    · rw [List.getElem?_append_right hj, show j - ss.length = 0 by omega] at hb'
      simp only [List.getElem?_cons_zero, Option.some.injEq] at hb'
      subst hb'
      intro he
      have := (hs.lt he).1
      obtain ⟨x, hx⟩ := at_lt (l := es) (i := i) (by omega)
      have := ((h3 i a x ha hx).lt hc).2
      omega
theorem FreshS.form {base : Nat} {w : World} {s : Value} {l : List Ent} {ss : List Value} (h : FreshS base w s l ss) : ∃ a c, s = .slice a l.length c := by
  rcases h.2.2.1.2 with ⟨h1, h2⟩ | ⟨g, cap, cur, hv, _⟩
  · exact ⟨_, _, by rw [h1, h2]⟩
  · exact ⟨_, _, hv⟩
theorem RowC.putXY {base : Nat} {w : World} {g n cap : Nat} {l : List Cmp} (h : RowC base w (.slice (some ⟨g, 0, none⟩) n cap) l) {i : Nat} {x : Cmp} (hx : l[i]? = some x) (u v : Int) :
    RowC base ((w.setCell ⟨g, i * 5 + 1, none⟩ (.int .i64 u)).setCell ⟨g, i * 5 + 1 + 1, none⟩ (.int .i64 v)) (.slice (some ⟨g, 0, none⟩) n cap) (l.set i (putXY u v x)) := by
  have hi := (List.getElem?_eq_some_iff.1 hx).1
  have h1 := h.store (j := i) (r := 1) (y := ⟨x.k, u, x.b, x.c, x.d⟩) (u := .int .i64 u) hx (by decide) rfl rfl
  have h2 := h1.store (j := i) (r := 2) (y := ⟨x.k, u, v, x.c, x.d⟩) (u := .int .i64 v) (List.getElem?_set_self hi) (by decide) rfl rfl
  rw [List.set_set, Nat.zero_add] at h2
  exact h2
theorem grownXY {w : World} (g a b : Nat) (u v : Value) : w.grownBy ((w.setCell ⟨g, a, none⟩ u).setCell ⟨g, b, none⟩ v) (some g) :=
  grown_set v (grown_set u ⟨rfl, rfl, rfl, Nat.le_refl _, fun _ _ _ => rfl⟩)
set_option maxHeartbeats 8000000 in
theorem back_any (t : Int) (es : List Ent) (ea : Option Addr) (en ec : Nat) (L : List Bdy) (sa : Option Addr) (sn sc : Nat) (gx gy : Int) (w : World) (h : EntsAt w (.slice ea en ec) es) (hlen : es.length ≤ 64) (hL : BodiesAt w (.slice sa sn sc) L) (hfit : ∀ e ∈ es, ∀ x ∈ e.cs, fits x = true) :
    Calls Tryz.prog 61 #[Wv t ea en ec, Sv sa sn sc gx gy] w (BackPost w t es L) := by
  have hn : en = es.length := ListAt.len h
  have HN := Lib.hid hn
  have HH := Lib.hid (And.intro h hL)
  have HFIT := Lib.hid hfit
  have hen : en ≤ 64 := by omega
  clear hn h hlen hL hfit
  go_enter Tryz.func61, Tryz.ntmps61
  go_upto_region 2 with fail
  have hI0 : BackInv w t ea en ec sa sn sc gx gy (.slice none 0 0) [] [] ((((w.alloc (.cells #[.int .i64 t, .slice ea en ec] 26)).alloc (.cells #[.slice sa sn sc, .slice none 0 0, .int .i64 gx, .int .i64 gy] 106)).alloc (.cells #[.int .i64 0, .slice none 0 0] 26)).alloc (.cells #[.int .i64 t, .slice none 0 0] 26)) :=
    ⟨(((Bk.made _ _ _).alloc _).alloc _).alloc _, ((Bk.at_ (by simp)).alloc _).alloc _, (Bk.at_ (by simp)).alloc _, Bk.at_ (by simp), ⟨by simp, rfl, World.ownsRow_nil _ _ _ _, fun i s e h => by simp at h, fun i j s t b hij h => by simp at h⟩, by go_grown⟩
  refine wp_name (fun V => BackInv w t ea en ec sa sn sc gx gy (.slice none 0 0) [] [] V) hI0 ?_
  clear hI0
  intro W0 HI
  have p1 := HI.b2.cell (v := .slice ea en ec) 1 rfl
  have HI := Lib.hid HI
  go_wp2
  go_loopw [19] (fun v wr => ∃ i : Nat, (v = .int .i64 i ∧ i ≤ en) ∧ ∃ out ss, BackInv w t ea en ec sa sn sc gx gy out ((es.take i).map (backE L)) ss wr) (fun v _ => en - (intOf v).toNat)
  case atStart => exact ⟨0, ⟨rfl, Nat.zero_le _⟩, _, _, HI.out⟩
  case round =>
    obtain ⟨i, ⟨rfl, hi⟩, out, ss, HI⟩ := hrel
    obtain ⟨oa, oc, rfl⟩ := HI.fr.form
    have hol : ((es.take i).map (backE L)).length = i := by rw [List.length_map, List.length_take]; have := HN.out; omega
    obtain ⟨M, hM⟩ : ∃ M, (es.take i).map (backE L) = M := ⟨_, rfl⟩
    rw [hM] at HI hol
    have HM := Lib.hid hM
    have HI := Lib.hid HI
    have HOL := Lib.hid hol
    clear hM p1 hol
    by_cases hlt : i < en
    · obtain ⟨e, he⟩ := get_lt (l := es) (i := i) (by have := HN.out; omega)
      have htk : (es.take (i + 1)).map (backE L) = M ++ [backE L e] := by
        have h1 : es.take (i + 1) = es.take i ++ [e] := by rw [List.take_add_one, he]; rfl
        rw [← HM.out, h1, List.map_append]; rfl
      have HTK := Lib.hid htk
      clear htk
      rcases HH.out.1 with ⟨h1, h2⟩ | ⟨b, off, cap, h1, hl, hc⟩
      · subst h2; simp at he
      · have hce := EntAt.below_ (hc i e he) HI.out.bel
        cases h1
        obtain ⟨x0, xa, xn, xc, x1, hx⟩ := hce
        have HFE := Lib.hid (HFIT.out e (List.mem_iff_getElem?.2 ⟨i, he⟩))
        clear hc he hl
        have HX := Lib.hid hx
        clear hx
        go_upto_region 5 with fail
        refine wp_name (fun V => Bk V wr.heap.size #[.int .i64 e.id, .slice xa xn xc] 43 ∧ Below wr.heap.size wr V ∧ CompsAt V (.slice xa xn xc) e.cs) ⟨Bk.made _ _ _, (Below.refl _ _).alloc (Nat.le_refl _) _, HX.out.below ((Below.refl _ _).alloc (Nat.le_refl _) _)⟩ ?_
        have hg7 := HI.out.bel.size
        have HIW := HI
        clear x0 x1 HX HI
        rintro V ⟨B7, hbV, hx⟩
        have HX := Lib.hid hx
        have q0 := B7.cell (v := .int .i64 e.id) 0 rfl
        have q1 := B7.cell (v := .slice xa xn xc) 1 rfl
        have f1 := B7.free 1
        have hVs : wr.heap.size < V.heap.size := B7.lt
        obtain ⟨g7, hg7e⟩ : ∃ g, wr.heap.size = g := ⟨_, rfl⟩
        rw [hg7e] at B7 q0 q1 f1 hg7 hVs hbV ⊢
        have HG := Lib.hid hg7e
        have hIV : BackInv w t (some ⟨b, off, none⟩) es.length ec sa sn sc gx gy (.slice oa M.length oc) M ss V := HIW.out.below (by rw [hg7e]; exact hbV)
        have HFV := Lib.hid hIV.fr
        have hne7 : some g7 ≠ (Value.slice oa M.length oc).ownBlock := fun e => by
          have := (HIW.out.fr.2.2.1.lt g7 e.symm).2
          omega
        have B7V := Lib.hid B7
        clear hx hg7e hIV
        go_wp2_with fail
        refine Calls.mono (cloneC_any _ e.cs V HX.out) ?_
        rintro e' V2 ⟨vc, rfl, hrow, hb2⟩
        obtain ⟨ca, cn, cc, rfl⟩ := hrow.form
        replace B7 := B7.below hb2
        replace hbV := hbV.trans (hb2.mono (Nat.le_of_lt hVs))
        have hV2 := hb2.size
        have HB2 := Lib.hid hb2.block
        clear hb2 q0 q1 f1 HX
        have q0 := B7.cell (v := .int .i64 e.id) 0 rfl
        have q1 := B7.cell (v := .slice xa xn xc) 1 rfl
        have f1 := B7.free 1
        have lt7 := B7.lt
        go_upto_region 6 with fail
        refine wp_name (fun W => (Bk W g7 #[.int .i64 e.id, .slice ca cn cc] 43 ∧ RowC V.heap.size W (.slice ca cn cc) e.cs) ∧ Below g7 wr W ∧ W.heap.size = V2.heap.size ∧ ∀ b, b < V.heap.size → b ≠ g7 → W.heap[b]? = V.heap[b]?) ⟨⟨B7.put 1 _, hrow.set (p := ⟨g7, 1, none⟩) B7 (by decide) _⟩, hbV.setCell (p := ⟨g7, 1, none⟩) (Nat.le_refl _) _, by simp [World.setCell], fun b hb hne => (Below.heap_setCell _ _ _ _ (by simpa using hne)).trans (HB2.out b hb)⟩ ?_
        clear q0 q1 f1 lt7 B7 hrow hbV
        rintro V3 ⟨⟨B7, hrow⟩, hb3, hV3, hkeep⟩
        have HKP := Lib.hid hkeep
        clear hkeep HB2
        have hI3 : BackInv w t (some ⟨b, off, none⟩) es.length ec sa sn sc gx gy (.slice oa M.length oc) M ss V3 := HIW.out.below (by rw [HG.out]; exact hb3)
        have HI3 := Lib.hid hI3
        have HRW := Lib.hid hrow
        have HV3 := Lib.hid (show V.heap.size ≤ V3.heap.size by omega)
        have p5 := hI3.b5.cell (v := .slice oa M.length oc) 1 rfl
        have q0 := B7.cell (v := .int .i64 e.id) 0 rfl
        have q1 := B7.cell (v := .slice ca cn cc) 1 rfl
        obtain ⟨i0, hi0, hz0, hz1, hz2⟩ := info_parts infoE
        have HIi := Lib.hid hi0
        clear hi0 hI3 hrow hb3 hV3
        go_wp2_with (at_builtin; refine wpL_name (fun W => Bk W V3.heap.size #[.int .i64 e.id, .slice ca cn cc] 43 ∧ Below V3.heap.size V3 W) ⟨Bk.made _ _ _, (Below.refl _ _).alloc (Nat.le_refl _) _⟩ ?_)
        first | rintro V4 B30 hb4 | rintro V4 ⟨B30, hb4⟩
        replace B7 := B7.below hb4
        replace HI3 := Lib.hid (HI3.out.below hb4)
        replace HRW := Lib.hid (HRW.out.below hb4)
        replace HKP := Lib.hid (fun b hb hne => (hb4.block b (Nat.lt_of_lt_of_le hb HV3.out)).trans (HKP.out b hb hne))
        replace HV3 := Lib.hid (Nat.le_trans HV3.out hb4.size)
        clear hb4 p5 q0 q1
        have hMl : M.length < 64 := by have := HOL.out; omega
        have C1 : ∀ (j : Nat) u, [Value.int .i64 e.id, .slice ca cn cc][j]? = some u → V4.cell? ((⟨V3.heap.size, 0, none⟩ : Addr).add j) = some u := by
          intro j u hj
          rw [Addr.add_lit, Nat.zero_add]
          match j, hj with
          | 0, hj => cases hj; exact B30.cell 0 rfl
          | 1, hj => cases hj; exact B30.cell 1 rfl
        have HC1 := Lib.hid C1
        clear C1
        refine wpList_append_mine _ rfl _ _ 24 rfl w.heap.size 43 i0 (.agg #[.int .i64 0, .slice none 0 0]) 2 32 Tryz.underlying24 HIi.out hz0 hz1 hz2 rfl (by decide) _ _ _ rfl HI3.out.fr.2.2.1 ⟨V3.heap.size, 0, none⟩ 1 1 [.int .i64 e.id, .slice ca cn cc] rfl rfl HC1.out ?c2 (by decide) ?c4 ?c5 HI3.out.bel.size ?_
        case c2 => intro u hu; simp at hu; rcases hu with rfl | rfl <;> rfl
        case c4 => unfold maxLen; omega
        case c5 => omega
        intro gS capS wS hownS hgS hlS
        change V4.grownBy wS (Value.slice oa M.length oc).ownBlock at hgS
        have hR := HI3.out.fr.2.2.1
        have D7 : Bk wS g7 #[.int .i64 e.id, .slice ca cn cc] 43 := (hgS.block _ B7.lt hne7).trans B7
        have DR : RowC V.heap.size wS (.slice ca cn cc) e.cs := HRW.out.grown hgS hR (by decide)
        have hFS : FreshS w.heap.size wS (.slice (some ⟨gS, 0, none⟩) (M.length + 1) capS) (M ++ [e]) (ss ++ [.slice ca cn cc]) :=
          FreshS.push (w := V) ⟨HFV.out.2.1, HFV.out.2.2.2.1, HFV.out.2.2.2.2, hownS⟩ (by omega) DR (by omega) (fun b hb ⟨cs, hcs⟩ => by
            have hbne : b ≠ g7 := bk_types (show Bk V b cs 48 from hcs) B7V.out (by decide)
            have h4 := HKP.out b hb hbne
            refine (hgS.block b (Nat.lt_of_lt_of_le hb HV3.out) (cells_ne_row (h4.trans hcs) (by decide) hR)).trans h4)
        have D2 : Bk wS w.heap.size #[.int .i64 t, .slice (some ⟨b, off, none⟩) es.length ec] 26 := (hgS.block _ HI3.out.b2.lt (bk_ne_row HI3.out.b2 (by decide) hR)).trans HI3.out.b2
        have D3 : Bk wS (w.heap.size + 1) #[.slice sa sn sc, .slice none 0 0, .int .i64 gx, .int .i64 gy] 106 := (hgS.block _ HI3.out.b3.lt (bk_ne_row HI3.out.b3 (by decide) hR)).trans HI3.out.b3
        have D4 : Bk wS (w.heap.size + 1 + 1) #[.int .i64 0, .slice none 0 0] 26 := (hgS.block _ HI3.out.b4.lt (bk_ne_row HI3.out.b4 (by decide) hR)).trans HI3.out.b4
        have D5 : Bk wS (w.heap.size + 1 + 1 + 1) #[.int .i64 t, .slice oa M.length oc] 26 := (hgS.block _ HI3.out.b5.lt (bk_ne_row HI3.out.b5 (by decide) hR)).trans HI3.out.b5
        have hbS : Below w.heap.size w wS := HI3.out.bel.grown hgS HI3.out.bel.size (fun k e => (hR.lt k e).1)
        have hI4 : BackInv w t (some ⟨b, off, none⟩) es.length ec sa sn sc gx gy (.slice (some ⟨gS, 0, none⟩) (M.length + 1) capS) (M ++ [e]) (ss ++ [.slice ca cn cc]) (wS.setCell ⟨w.heap.size + 1 + 1 + 1, 1, none⟩ (.slice (some ⟨gS, 0, none⟩) (M.length + 1) capS)) :=
          ⟨D2.far (p := ⟨w.heap.size + 1 + 1 + 1, 1, none⟩) (by simp; omega) _, D3.far (p := ⟨w.heap.size + 1 + 1 + 1, 1, none⟩) (by simp) _, D4.far (p := ⟨w.heap.size + 1 + 1 + 1, 1, none⟩) (by simp) _, D5.put 1 _, hFS.set (p := ⟨w.heap.size + 1 + 1 + 1, 1, none⟩) D5 (by decide) (by decide) _, hbS.setCell (p := ⟨w.heap.size + 1 + 1 + 1, 1, none⟩) (by simp; omega) _⟩
        have HI4 := Lib.hid hI4
        have HR4 := Lib.hid (DR.set (p := ⟨w.heap.size + 1 + 1 + 1, 1, none⟩) D5 (by decide) (.slice (some ⟨gS, 0, none⟩) (M.length + 1) capS))
        have HB7 := Lib.hid (D7.far (p := ⟨w.heap.size + 1 + 1 + 1, 1, none⟩) (by have := bk_types D7 D5 (by decide); simpa using this) (.slice (some ⟨gS, 0, none⟩) (M.length + 1) capS))
        have k1 := D5.cell (v := .slice oa M.length oc) 1 rfl
        have kf := D5.free 1
        have klt := D5.lt
        clear hI4 hFS D2 D3 D4 D5 D7 DR hbS hR hgS hlS hownS HC1 HKP HRW HI3 B7 B30 HIi hz0 hz1 hz2 HFV B7V
        go_upto_region 7 with fail
        refine wp_name (fun W => BackInv w t (some ⟨b, off, none⟩) es.length ec sa sn sc gx gy (.slice (some ⟨gS, 0, none⟩) (M.length + 1) capS) (M ++ [e]) (ss ++ [.slice ca cn cc]) W ∧ RowC V.heap.size W (.slice ca cn cc) e.cs ∧ Bk W g7 #[.int .i64 e.id, .slice ca cn cc] 43) ⟨HI4.out, HR4.out, HB7.out⟩ ?_
        clear HI4 HR4 HB7 k1 kf klt
        rintro V5 ⟨HI, hrow, B7⟩
        have hssl : ss.length = M.length := by have := HI.fr.2.1; simp at this; omega
        have hcomps := hrow.comps
        have HI := Lib.hid HI
        have HRW := Lib.hid hrow
        have HCM := Lib.hid hcomps
        have q0 := cell_regrown (B7.cell (v := .int .i64 e.id) 0 rfl)
        have q1 := cell_regrown (B7.cell (v := .slice ca cn cc) 1 rfl)
        obtain ⟨p1, hp1⟩ : ∃ p, firstV ca (firstOf (keyC 1) e.cs) = p := ⟨_, rfl⟩
        obtain ⟨p2, hp2⟩ : ∃ p, firstV ca (firstOf (keyC 2) e.cs) = p := ⟨_, rfl⟩
        have G1 := Lib.hid (fun (W : World) (hW : Below V5.heap.size V5 W) => by have := first_any e.id e.cs ca cn cc 1 W (hcomps.below hW); rw [hp1] at this; exact this)
        have G2 := Lib.hid (fun (W : World) (hW : Below V5.heap.size V5 W) => by have := first_any e.id e.cs ca cn cc 2 W (hcomps.below hW); rw [hp2] at this; exact this)
        have HP := Lib.hid (And.intro hp1 hp2)
        clear hrow hcomps hp1 hp2
        refine wp_region_low2 noPosts 5 (by kernel_rfl) (by kernel_rfl) ?_
        simp only [List.take, List.drop]
        iterate 1 (refine low2_step (fun K hK => ?_); go_simp; first | (refine hK _ ?_; clear hK K) | (apply Exists.intro; refine ⟨fun p => ?_, hK _ ?_⟩; clear hK K))
        refine low2_reads 90 #[.agg #[.int .i64 e.id, .slice ca cn cc], .int .u8 1] _ (by rfl) (fun w => by go_simp; try rfl) rfl (by kernel_rfl) (fun V1 hV hG => G1.out V1 hV) ?_
        iterate 1 (refine low2_step (fun K hK => ?_); go_simp; first | (refine hK _ ?_; clear hK K) | (apply Exists.intro; refine ⟨fun p => ?_, hK _ ?_⟩; clear hK K))
        refine low2_reads 90 #[.agg #[.int .i64 e.id, .slice ca cn cc], .int .u8 2] _ (by rfl) (fun w => by go_simp; try rfl) rfl (by kernel_rfl) (fun V1 hV hG => G2.out V1 hV) ?_
        iterate 1 (refine low2_step (fun K hK => ?_); go_simp; first | (refine hK _ ?_; clear hK K) | (apply Exists.intro; refine ⟨fun p => ?_, hK _ ?_⟩; clear hK K))
        refine low2_nil ?_
        intro V6 hC
        replace B7 := B7.below hC.1
        replace HI := Lib.hid (HI.out.below hC.1)
        replace HRW := Lib.hid (HRW.out.below hC.1)
        replace HCM := Lib.hid (HCM.out.below hC.1)
        clear hC q0 q1 G1 G2
        have q0 := B7.cell (v := .int .i64 e.id) 0 rfl
        have q1 := B7.cell (v := .slice ca cn cc) 1 rfl
        go_wp2_with fail
        refine Calls.mono (body_any e ca cn cc V6 HCM.out) ?_
        rintro e' V7 ⟨rfl, hb7⟩
        replace B7 := B7.below hb7
        replace HI := Lib.hid (HI.out.below hb7)
        replace HRW := Lib.hid (HRW.out.below hb7)
        replace HCM := Lib.hid (HCM.out.below hb7)
        clear hb7 q0 q1
        rcases hbm : bodyM e with _ | old
        · simp only [bodyR, Bv]
          have stay : backE L e = e → ∃ out ss', BackInv w t (some ⟨b, off, none⟩) es.length ec sa sn sc gx gy out ((es.take (i + 1)).map (backE L)) ss' V7 := fun hb => by
            rw [HTK.out, hb]; exact ⟨_, _, HI.out⟩
          have HST := Lib.hid stay
          have HBM := Lib.hid hbm
          clear stay hbm
          rcases first_case V7 ca cn cc e.cs 1 HCM.out with ⟨h1, h2⟩ | ⟨b1, o1, i1, x, ha, h1, hi1, hk1, h2, hf1, hc1⟩
          · obtain rfl : p1 = .pointer none := by rw [← HP.out.1, h2]
            have hbk : backE L e = e := by unfold backE; rw [HBM.out, h1]
            obtain ⟨out', ss', hfin⟩ := HST.out hbk
            have HFN := Lib.hid hfin
            clear h1 h2 hbk hfin
            go_wp2
            go_roundw
            case rel => exact ⟨i + 1, ⟨by go_num, by omega⟩, out', ss', HFN.out.below ((Below.refl _ _).alloc (Nat.le_refl _) _)⟩
            case measure => simp [intOf]; omega
          · rcases first_case V7 ca cn cc e.cs 2 HCM.out with ⟨h3, h4⟩ | ⟨b2, o2, i2, y, ha2, h3, hi2, hk2, h4, hf2, hc2⟩
            · obtain rfl : p2 = .pointer none := by rw [← HP.out.2, h4]
              obtain rfl : p1 = .pointer (some ⟨b1, o1 + i1 * 5, none⟩) := by rw [← HP.out.1, h2]
              have hbk : backE L e = e := by unfold backE; rw [HBM.out, h1, h3]
              obtain ⟨out', ss', hfin⟩ := HST.out hbk
              have HFN := Lib.hid hfin
              clear h1 h2 h3 h4 hbk hfin hi1 hk1 hf1 hc1 ha
              go_wp2
              go_roundw
              case rel => exact ⟨i + 1, ⟨by go_num, by omega⟩, out', ss', HFN.out.below ((Below.refl _ _).alloc (Nat.le_refl _) _)⟩
              case measure => simp [intOf]; omega
            · have h5 : e.cs.find? (keyC 3) = none := by
                rcases h6 : e.cs.find? (keyC 3) with _ | z
                · rfl
                · exfalso
                  have h7 := HBM.out
                  simp only [bodyM, h1, h6, h3] at h7
                  cases h7
              obtain rfl : p2 = .pointer (some ⟨b2, o2 + i2 * 5, none⟩) := by rw [← HP.out.2, h4]
              obtain rfl : p1 = .pointer (some ⟨b1, o1 + i1 * 5, none⟩) := by rw [← HP.out.1, h2]
              obtain ⟨gc, cap', cur, hcv, hgc, hcur, -, -⟩ := HRW.out.comp hi1
              have hca : ca = some ⟨gc, 0, none⟩ ∧ cn = e.cs.length ∧ cc = cap' := by
                injection hcv with u1 u2 u3; exact ⟨u1, u2, u3⟩
              obtain ⟨hca1, hcn, hcc⟩ := hca
              subst hcn hcc
              rw [hca1] at ha ha2
              have hb1 := Option.some.inj ha
              have hb2 := Option.some.inj ha2
              injection hb1 with u1 u2
              injection hb2 with u3 u4
              subst hca1 u1 u2 u3 u4
              have hne : i1 ≠ i2 := fun e' => by
                rw [e', hi2] at hi1
                have := Option.some.inj hi1
                rw [this] at hk2
                rw [hk1] at hk2
                exact absurd hk2 (by decide)
              have hbk : backE L e = ⟨e.id, (e.cs.set i1 (putXY (flyP x.a y.a) (flyP x.b y.b) x)).set i2 (putXY (flyV x.a y.a) (flyV x.b y.b) y)⟩ := by
                unfold backE
                rw [HBM.out, h1, h3, h5]
                simp only
                rw [setK_of hf1 hi1, setK_of2 (X := putXY (flyP x.a y.a) (flyP x.b y.b) x) hf2 hi1 rfl hi2 hne]
              have FA : FlyAt w.heap.size V7 V7 gc e.cs.length cc i1 i2 e.cs x y := by
                refine ⟨?_, ⟨rfl, rfl, rfl, Nat.le_refl _, fun _ _ _ => rfl⟩, (List.getElem?_eq_some_iff.1 hi1).1, (List.getElem?_eq_some_iff.1 hi2).1, hne⟩
                rw [set_self hi1, set_self hi2]
                exact HRW.out.mono (by omega)
              have hbx := fits_pos' (HFE.out x (List.mem_iff_getElem?.2 ⟨_, hi1⟩)) hk1
              have hby := fits_vel (HFE.out y (List.mem_iff_getElem?.2 ⟨_, hi2⟩)) hk2
              have G3 := Lib.hid (fun (W : World) (hW : Below V7.heap.size V7 W) => by
                have h8 := first_any e.id e.cs (some ⟨gc, 0, none⟩) e.cs.length cc 3 W (HCM.out.below hW)
                have h9 : firstV (some ⟨gc, 0, none⟩) (firstOf (keyC 3) e.cs) = .pointer none := by
                  rcases first_case V7 _ _ _ e.cs 3 HCM.out with ⟨-, h⟩ | ⟨_, _, _, z, _, h, _⟩
                  · exact h
                  · rw [h5] at h; cases h
                rw [h9] at h8; exact h8)
              have FL := Lib.hid (fun (W : World) (hW : Below V7.heap.size V7 W) => fly_any w.heap.size gc e.cs.length cc i1 i2 e.cs x y W ⟨FA.1.below hW, ⟨rfl, rfl, rfl, Nat.le_refl _, fun _ _ _ => rfl⟩, FA.2.2⟩ hbx hby)
              have HBK := Lib.hid hbk
              have HCU := Lib.hid (show (∃ cur, Bk V7 gc cur 48) ∧ w.heap.size ≤ gc from ⟨⟨cur, hcur⟩, by omega⟩)
              simp only [Nat.zero_add]
              clear h1 h2 h3 h4 h5 hbk hi1 hi2 hk1 hk2 hf1 hf2 hc1 hc2 hcv hgc hcur ha ha2 FA hbx hby hne
              have q0 := B7.cell (v := .int .i64 e.id) 0 rfl
              have q1 := B7.cell (v := .slice (some ⟨gc, 0, none⟩) e.cs.length cc) 1 rfl
              have lt7 := B7.lt
              go_wp2_with fail
              refine Calls.mono (G3.out _ ((Below.refl _ _).alloc (Nat.le_refl _) _)) ?_
              rintro e' V8 ⟨rfl, hb8⟩
              have hb78 : Below V7.heap.size V7 V8 := ((Below.refl V7.heap.size V7).alloc (Nat.le_refl _) _).trans (hb8.mono (by simp))
              have HB8 := Lib.hid hb78
              clear hb8 hb78 q0 q1
              go_wp2_with fail
              refine Calls.mono (FL.out _ HB8.out) ?_
              rintro e' V9 ⟨⟨vv, rfl⟩, hF9⟩
              have hI9 := (HI.out.below HB8.out).turn hssl hF9.2.1 hF9.1 (by obtain ⟨c', hc'⟩ := HCU.out.1; exact ⟨c', hc'.below HB8.out⟩) HCU.out.2
              have HI9 := Lib.hid hI9
              clear hF9 hI9
              go_wp2
              go_roundw
              case rel => exact ⟨i + 1, ⟨by go_num, by omega⟩, _, _, by rw [HTK.out, HBK.out]; exact HI9.out⟩
              case measure => simp [intOf]; omega
        · simp only [bodyR, Bv]
          have hpx : ∃ x y, e.cs.find? (keyC 1) = some x ∧ e.cs.find? (keyC 3) = some y ∧ (old.fixed = true ∨ ∃ v, e.cs.find? (keyC 2) = some v) := by
            rcases h1 : e.cs.find? (keyC 1) with _ | x
            · simp only [bodyM, h1] at hbm; cases hbm
            · rcases h3 : e.cs.find? (keyC 3) with _ | y
              · simp only [bodyM, h1, h3] at hbm; cases hbm
              · refine ⟨x, y, rfl, rfl, ?_⟩
                rcases h2 : e.cs.find? (keyC 2) with _ | v
                · simp only [bodyM, h1, h3, h2] at hbm
                  left; rw [← Option.some.inj hbm]
                · exact .inr ⟨v, rfl⟩
          obtain ⟨x, yb, hx1, hy3, hvel⟩ := hpx
          rcases first_case V7 ca cn cc e.cs 1 HCM.out with ⟨h1, h2⟩ | ⟨b1, o1, i1, x', ha, h1, hi1, hk1, h2, hf1, hc1⟩
          · rw [hx1] at h1; cases h1
          · obtain rfl : p1 = .pointer (some ⟨b1, o1 + i1 * 5, none⟩) := by rw [← HP.out.1, h2]
            obtain ⟨gc, cap', cur, hcv, hgc, hcur, -, -⟩ := HRW.out.comp hi1
            have hca : ca = some ⟨gc, 0, none⟩ ∧ cn = e.cs.length ∧ cc = cap' := by
              injection hcv with u1 u2 u3; exact ⟨u1, u2, u3⟩
            obtain ⟨hca1, hcn, hcc⟩ := hca
            subst hcn hcc
            rw [hca1] at ha
            have hb1 := Option.some.inj ha
            injection hb1 with u1 u2
            subst hca1 u1 u2
            simp only [Nat.zero_add]
            have HBM := Lib.hid hbm
            have HCU := Lib.hid (show (∃ cur, Bk V7 gc cur 48) ∧ w.heap.size ≤ gc from ⟨⟨cur, hcur⟩, by omega⟩)
            clear hbm ha hcv hgc hcur
            have lt7 := B7.lt
            have z0 := HI.out.b3.cell (v := .slice sa sn sc) 0 rfl
            have z1 := HI.out.b3.lt
            have IB := fun (W : World) (hW : Below V7.heap.size V7 W) => indexBody_any L (.slice sa sn sc) W ((HH.out.2.below HI.out.bel).below hW) e.id (some ⟨gc, 0, none⟩) e.cs.length cc g7 (B7.below hW)
            have HIB := Lib.hid IB
            clear IB
            go_wp2_with fail
            refine Calls.mono (HIB.out _ ((Below.refl _ _).alloc (Nat.le_refl _) _)) ?_
            rintro e' V8 ⟨rfl, hb8⟩
            have hb78 : Below V7.heap.size V7 V8 := ((Below.refl V7.heap.size V7).alloc (Nat.le_refl _) _).trans (hb8.mono (by simp))
            have B10 : Bk V8 V7.heap.size (bcs old) 133 := Bk.below (Bk.made _ _ _) hb8
            have HB8 := Lib.hid hb78
            have HI8 := Lib.hid (HI.out.below hb78)
            clear hb8 hb78 z0 z1 lt7
            by_cases hfd : L.any (idB e.id) = true
            · have hz := List.findIdx_lt_length.2 (List.any_eq_true.1 hfd)
              have hzf : firstOf (idB e.id) L = (L.findIdx (idB e.id) : Nat) := by unfold firstOf; rw [if_pos hfd]
              obtain ⟨z, hzz⟩ : ∃ z, L.findIdx (idB e.id) = z := ⟨_, rfl⟩
              rw [hzz] at hz hzf
              rw [hzf]
              have hfind : L.find? (idB e.id) = L[z]? := by rw [List.find?_eq_getElem?_findIdx, hzz]
              obtain ⟨bd, hbd⟩ := get_lt hz
              rw [hbd] at hfind
              have HFB := Lib.hid (And.intro hfind hbd)
              have hBL := HH.out.2.below HI8.out.bel
              rcases hBL with ⟨hL1, hL2⟩ | ⟨bb, bo, bc, hL1, hLl, hLc⟩
              · rw [hL2] at hz; simp at hz
              cases hL1
              obtain ⟨y0, y1, y2, y3, y4, y5, y6, y7, y8⟩ := hLc z bd hbd
              rw [hx1] at h1
              obtain rfl := Option.some.inj h1
              have hrw8 := HRW.out.below HB8.out
              obtain ⟨g', cp, cur8, e8, -, hc8, hf8, -, xa8, xb8⟩ := hrw8.comp hi1
              cases e8
              simp only [Nat.zero_add] at xa8 xb8
              have fz1 := hf8 (i1 * 5 + 1)
              have fz2 := hf8 (i1 * 5 + 1 + 1)
              have ltc := hc8.lt
              have z0 := HI8.out.b3.cell (v := .slice (some ⟨bb, bo, none⟩) L.length sc) 0 rfl
              have y2' : V8.cell? ⟨bb, bo + z * 9 + 1 + 1, none⟩ = some (.int .i64 bd.y) := y2
              have HF1 := Lib.hid (And.intro hi1 (And.intro hk1 hf1))
              have HCM8 := Lib.hid hc1
              clear hzf hzz hfind hbd hLc hLl y0 y2 y3 y4 y5 y6 y7 y8 hrw8 hc8 hf8 hi1 hk1 hf1 hc1 h2 hfd
              go_wp2
              refine wp_region_any rfl ?_
              refine wpAny_name (fun V => Below V8.heap.size V8 V) ((Below.refl _ _).drew) ?_
              intro V9 hb9
              replace z0 := cell_regrown (cell_later hb9 z0)
              replace y1 := cell_regrown (cell_later hb9 y1)
              replace y2' := cell_regrown (cell_later hb9 y2')
              clear fz1 fz2 ltc xa8 xb8
              (refine wpAny_take (i := 1) (v := ?_) rfl (by kernel_rfl) (by kernel_rfl) (by kernel_rfl) (fun _ _ _ h => h) (Or.inl ⟨by rfl, ?_⟩) ?_; rotate_left; (intro w; go_simp); (try with_reducible rfl))
              (refine wpAny_take (i := 20) (v := ?_) rfl (by kernel_rfl) (by kernel_rfl) (by kernel_rfl) (fun _ _ _ h => h) (Or.inl ⟨by rfl, ?_⟩) ?_; rotate_left; (intro w; go_simp); (try with_reducible rfl))
              (refine wpAny_take (i := 21) (v := ?_) rfl (by kernel_rfl) (by kernel_rfl) (by kernel_rfl) (fun _ _ _ h => h) (Or.inl ⟨by rfl, ?_⟩) ?_; rotate_left; (intro w; go_simp); (try with_reducible rfl))
              refine any_lowH noPosts _ [0, 2, 3, 4, 5, 6, 7, 8, 9, 10, 11, 12, 13, 14, 15, 16, 17, 18] [18, 17, 16, 15, 14, 13, 12, 11, 10, 9, 8, 7, 6, 5, 4, 3, 2, 0] [19, 22, 23] (by kernel_rfl) ?_
              iterate 18 (refine lowH_step _ rfl (fun K hK => ?_); go_simp; first | (refine hK _ ?_; clear hK K) | (apply Exists.intro; refine ⟨fun p => ?_, hK _ ?_⟩; clear hK K))
              refine lowH_nil ?_
              intro V10 hC
              have hbA := hb9.trans (hC.1.mono hb9.size)
              clear hC z0 y1 y2'
              have HI := Lib.hid (HI8.out.below hbA)
              have HRX := Lib.hid ((HRW.out.below HB8.out).below hbA)
              have hBV : w.heap.size ≤ V.heap.size := by omega
              have B10 := B10.below hbA
              have HCX := Lib.hid (show (∃ cur, Bk V10 gc cur 48) ∧ w.heap.size ≤ gc from ⟨by obtain ⟨c', hc'⟩ := HCU.out.1; exact ⟨c', (hc'.below HB8.out).below hbA⟩, HCU.out.2⟩)
              obtain ⟨curX, hcurX⟩ := HCX.out.1
              have fx1 := hcurX.free (i1 * 5 + 1)
              have fx2 := hcurX.free (i1 * 5 + 1 + 1)
              have ltx := hcurX.lt
              obtain ⟨gX, cpX, cuX, eX, -, -, -, -, xaX, xbX⟩ := HRX.out.comp HF1.out.1
              cases eX
              simp only [Nat.zero_add] at xaX xbX
              have xbX' : V10.cell? ⟨gc, i1 * 5 + 1 + 1, none⟩ = some (.int .i64 x.b) := xbX
              clear hcurX xbX
              iterate 3 (refine wpSeq_cons rfl (fun K hK => ?_); go_simp; refine hK _ _ ?_; clear hK K)
              refine wpSeq_nil ?_
              have hturn := HI.out.turn (cs' := e.cs.set i1 (putXY bd.x bd.y x)) hssl (grownXY gc (i1 * 5 + 1) (i1 * 5 + 1 + 1) (.int .i64 bd.x) (.int .i64 bd.y)) ((HRX.out.putXY HF1.out.1 bd.x bd.y).mono hBV) HCX.out.1 HCX.out.2
              obtain ⟨curX, hcurX⟩ := HCX.out.1
              have n10 := bk_types B10 hcurX (by decide)
              have HXX := Lib.hid (And.intro hturn (And.intro ((B10.far (p := ⟨gc, i1 * 5 + 1, none⟩) n10 (.int .i64 bd.x)).far (p := ⟨gc, i1 * 5 + 1 + 1, none⟩) n10 (.int .i64 bd.y)) ((HRX.out.putXY HF1.out.1 bd.x bd.y).mono hBV)))
              clear hturn hcurX n10 fx1 fx2 ltx xaX xbX' B10 HI
              refine at_name (R := Exit.then _ _ Exit.normal) (fun V => BackInv w t (some ⟨b, off, none⟩) es.length ec (some ⟨bb, bo, none⟩) L.length sc gx gy (.slice (some ⟨gS, 0, none⟩) (M.length + 1) capS) (M ++ [⟨e.id, e.cs.set i1 (putXY bd.x bd.y x)⟩]) (ss ++ [.slice (some ⟨gc, 0, none⟩) e.cs.length cc]) V ∧ Bk V V7.heap.size (bcs old) 133 ∧ RowC w.heap.size V (.slice (some ⟨gc, 0, none⟩) e.cs.length cc) (e.cs.set i1 (putXY bd.x bd.y x))) HXX.out ?_
              clear HXX
              rintro V11 ⟨HI, B10, hrow⟩
              have z6 := B10.cell (v := .bool old.fixed) 8 rfl
              have HI := Lib.hid HI
              have HRW := Lib.hid hrow
              clear hrow HRX hbA HI8 HB8 hb9 HCM8
              rcases hof : old.fixed with _ | _
              · have hv2 : ∃ v, e.cs.find? (keyC 2) = some v := by
                  rcases hvel with h | h
                  · rw [hof] at h; cases h
                  · exact h
                obtain ⟨yv, hyv⟩ := hv2
                rcases first_case V7 _ _ _ e.cs 2 HCM.out with ⟨h3, h4⟩ | ⟨b2, o2, i2, y, ha2, h3, hi2, hk2, h4, hf2, hc2⟩
                · rw [hyv] at h3; cases h3
                obtain rfl : p2 = .pointer (some ⟨b2, o2 + i2 * 5, none⟩) := by rw [← HP.out.2, h4]
                have hb2' := Option.some.inj ha2
                injection hb2' with u3 u4
                subst u3 u4
                simp only [Nat.zero_add]
                have hne : i1 ≠ i2 := fun e' => by
                  have hi1 := HF1.out.1
                  rw [e', hi2] at hi1
                  have := Option.some.inj hi1
                  have hk1 := HF1.out.2.1
                  rw [← this] at hk1
                  rw [hk1] at hk2
                  exact absurd hk2 (by decide)
                have hbk : backE L e = ⟨e.id, (e.cs.set i1 (putXY bd.x bd.y x)).set i2 (putXY bd.vx bd.vy y)⟩ := by
                  unfold backE
                  rw [HBM.out, HFB.out.1]
                  simp only [hof]
                  rw [if_neg (by decide), setK_of HF1.out.2.2 HF1.out.1, setK_of2 (X := putXY bd.x bd.y x) hf2 HF1.out.1 rfl hi2 hne]
                have HBK := Lib.hid hbk
                have hi2' : (e.cs.set i1 (putXY bd.x bd.y x))[i2]? = some y := by rw [List.getElem?_set_ne hne]; exact hi2
                have HI2 := Lib.hid hi2'
                rw [hof] at z6
                have hBL := HH.out.2.below HI.out.bel
                rcases hBL with ⟨hL1, hL2⟩ | ⟨bb', bo', bc', hL1, hLl, hLc⟩
                · exact absurd HFB.out.2 (by rw [hL2]; simp)
                cases hL1
                obtain ⟨y0, y1, y2, y3, y4, y5, y6, y7, y8⟩ := hLc z bd HFB.out.2
                have y4' : V11.cell? ⟨bb, bo + z * 9 + 3 + 1, none⟩ = some (.int .i64 bd.vy) := y4
                have z0 := HI.out.b3.cell (v := .slice (some ⟨bb, bo, none⟩) L.length sc) 0 rfl
                clear hbk hof hi2' hi2 hk2 hf2 hc2 h3 h4 ha2 hyv hne hLl hLc y0 y1 y2 y4 y5 y6 y7 y8
                go_wp2
                refine wp_region_any rfl ?_
                refine wpAny_name (fun V => Below V11.heap.size V11 V) ((Below.refl _ _).drew) ?_
                intro V12 hb12
                replace z0 := cell_regrown (cell_later hb12 z0)
                replace y3 := cell_regrown (cell_later hb12 y3)
                replace y4' := cell_regrown (cell_later hb12 y4')
                clear z6
                (refine wpAny_take (i := 1) (v := ?_) rfl (by kernel_rfl) (by kernel_rfl) (by kernel_rfl) (fun _ _ _ h => h) (Or.inl ⟨by rfl, ?_⟩) ?_; rotate_left; (intro w; go_simp); (try with_reducible rfl))
                (refine wpAny_take (i := 20) (v := ?_) rfl (by kernel_rfl) (by kernel_rfl) (by kernel_rfl) (fun _ _ _ h => h) (Or.inl ⟨by rfl, ?_⟩) ?_; rotate_left; (intro w; go_simp); (try with_reducible rfl))
                (refine wpAny_take (i := 21) (v := ?_) rfl (by kernel_rfl) (by kernel_rfl) (by kernel_rfl) (fun _ _ _ h => h) (Or.inl ⟨by rfl, ?_⟩) ?_; rotate_left; (intro w; go_simp); (try with_reducible rfl))
                refine any_lowH noPosts _ [0, 2, 3, 4, 5, 6, 7, 8, 9, 10, 11, 12, 13, 14, 15, 16, 17, 18] [18, 17, 16, 15, 14, 13, 12, 11, 10, 9, 8, 7, 6, 5, 4, 3, 2, 0] [19, 22, 23] (by kernel_rfl) ?_
                iterate 18 (refine lowH_step _ rfl (fun K hK => ?_); go_simp; first | (refine hK _ ?_; clear hK K) | (apply Exists.intro; refine ⟨fun p => ?_, hK _ ?_⟩; clear hK K))
                refine lowH_nil ?_
                intro V13 hC
                have hbA := hb12.trans (hC.1.mono hb12.size)
                clear hC z0 y3 y4'
                have HI := Lib.hid (HI.out.below hbA)
                have HRX := Lib.hid (HRW.out.below hbA)
                obtain ⟨gX, cpX, cuX, eX, hgX, hcurX, -, -, xaX, xbX⟩ := HRX.out.comp HI2.out
                injection eX with v1 v2 v3
                injection v1 with v1
                injection v1 with v1
                subst v1
                clear v2 v3
                simp only [Nat.zero_add] at xaX xbX
                have xbX' : V13.cell? ⟨gc, i2 * 5 + 1 + 1, none⟩ = some (.int .i64 y.b) := xbX
                have fx1 := hcurX.free (i2 * 5 + 1)
                have fx2 := hcurX.free (i2 * 5 + 1 + 1)
                have ltx := hcurX.lt
                have hturn := HI.out.turn (e := ⟨e.id, e.cs.set i1 (putXY bd.x bd.y x)⟩) (cs' := (e.cs.set i1 (putXY bd.x bd.y x)).set i2 (putXY bd.vx bd.vy y)) hssl (grownXY gc (i2 * 5 + 1) (i2 * 5 + 1 + 1) (.int .i64 bd.vx) (.int .i64 bd.vy)) (HRX.out.putXY HI2.out bd.vx bd.vy) ⟨_, hcurX⟩ HCX.out.2
                have HTU := Lib.hid hturn
                clear hcurX xbX hturn HRX
                iterate 3 (refine wpSeq_cons rfl (fun K hK => ?_); go_simp; refine hK _ _ ?_; clear hK K)
                refine wpSeq_nil ?_
                go_wp2
                go_roundw
                case rel => exact ⟨i + 1, ⟨by go_num, by omega⟩, _, _, by rw [HTK.out, HBK.out]; exact HTU.out⟩
                case measure => simp [intOf]; omega
              · have hbk : backE L e = ⟨e.id, e.cs.set i1 (putXY bd.x bd.y x)⟩ := by
                  unfold backE
                  rw [HBM.out, HFB.out.1]
                  simp only [hof, if_true]
                  rw [setK_of HF1.out.2.2 HF1.out.1]
                rw [hof] at z6
                have HBK := Lib.hid hbk
                clear hbk hof
                go_wp2
                go_roundw
                case rel => exact ⟨i + 1, ⟨by go_num, by omega⟩, _, _, by rw [HTK.out, HBK.out]; exact HI.out⟩
                case measure => simp [intOf]; omega
            · have hz : firstOf (idB e.id) L = -1 := by unfold firstOf; rw [if_neg hfd]
              rw [hz]
              have hbk : backE L e = e := by
                unfold backE
                have h9 : L.find? (idB e.id) = none := by
                  rw [List.find?_eq_none]
                  intro q hq hqq
                  exact hfd (List.any_eq_true.2 ⟨q, hq, hqq⟩)
                rw [HBM.out, h9]
              have HBK := Lib.hid hbk
              clear hz hbk hfd
              go_wp2
              go_roundw
              case rel => exact ⟨i + 1, ⟨by go_num, by omega⟩, _, _, by rw [HTK.out, HBK.out]; exact HI8.out⟩
              case measure => simp [intOf]; omega
    · obtain rfl : i = en := by omega
      have hfull : M = es.map (backE L) := by rw [← HM.out, HN.out, List.take_length]
      have B5 := HI.out.b5
      have B4 := HI.out.b4
      have s0 := B5.cell (v := .int .i64 t) 0 rfl
      have s1 := B5.cell (v := .slice oa M.length oc) 1 rfl
      have r0 := B4.cell (v := .int .i64 0) 0 rfl
      have r1 := B4.cell (v := .slice none 0 0) 1 rfl
      have f0 := B4.free 0
      have f1 := B4.free 1
      have lt := B4.lt
      have G2 := Lib.hid (B4.store2 (x := .int .i64 t) (y := .slice oa M.length oc) HI.out.bel (Nat.le_trans (Nat.le_succ _) (Nat.le_succ _)))
      have GF := Lib.hid (((HI.out.fr.set (p := ⟨w.heap.size + 1 + 1, 0, none⟩) B4 (by decide) (by decide) (.int .i64 t)).set (p := ⟨w.heap.size + 1 + 1, 1, none⟩) (B4.put 0 (.int .i64 t)) (by decide) (by decide) (.slice oa M.length oc)).shut)
      have HFU := Lib.hid hfull
      clear hfull B5 B4 hlt HI
      go_wp2
      refine post_name (fun V => (Bk V (w.heap.size + 1 + 1) #[.int .i64 t, .slice oa M.length oc] 26 ∧ Below w.heap.size w V) ∧ Fresh w.heap.size V (.slice oa M.length oc) M) ⟨G2.out, GF.out⟩ ?_
      rintro V ⟨⟨BV, hbV⟩, hFV⟩
      clear s0 s1 r0 r1 f0 f1 lt
      have y0 := BV.cell (v := .int .i64 t) 0 rfl
      have y1 := BV.cell (v := .slice oa M.length oc) 1 rfl
      exact bodyPost_ret (v := Wv t oa M.length oc) (by simp [results, Tryz.results61, go_sem, y0, y1]; try rfl) rfl ⟨oa, M.length, oc, rfl, by rw [← HFU.out]; exact hFV, hbV⟩
end Go.Proofs.YtlcjkomfjgddeaaGreatDoor
