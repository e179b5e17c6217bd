/- marcheslaw28.Built. -/
import Derived.Test.YtjjodmkblpdnhaaDoorInterp10
import Derived.Test.YtjjodmkblpdnhaaDoorInterp11
set_option linter.unusedVariables false
set_option linter.unusedSimpArgs false
namespace Go.Proofs.YtjjodmkblpdnhaaDoor
open Go Go.RowKit Go.Sort
set_option maxRecDepth 100000
attribute [local go_sem] opLow opUpon opLow2 opUpon2

/-- a list of numbers of 16 bits -/
def NumsAt (w : World) (v : Value) (l : List Int) : Prop :=
  ∃ a c, v = .slice a l.length c ∧ l.length < 9223372036854775808 ∧ ∀ (i : Nat) (x : Int), l[i]? = some x → ∃ b off, a = some ⟨b, off, none⟩ ∧ w.cell? ⟨b, off + i, none⟩ = some (.int .u16 x) ∧ 0 ≤ x ∧ x ≤ 65535
theorem NumsAt.len {w : World} {a : Option Addr} {n c : Nat} {l : List Int} (h : NumsAt w (.slice a n c) l) : n = l.length ∧ n < 9223372036854775808 := by
  obtain ⟨a', c', hv, hl, -⟩ := h
  cases hv
  exact ⟨rfl, hl⟩
theorem NumsAt.at {w : World} {a : Option Addr} {n c : Nat} {l : List Int} (h : NumsAt w (.slice a n c) l) {i : Nat} {x : Int} (hx : l[i]? = some x) : ∃ b off, a = some ⟨b, off, none⟩ ∧ w.cell? ⟨b, off + i, none⟩ = some (.int .u16 x) ∧ 0 ≤ x ∧ x ≤ 65535 := by
  obtain ⟨a', c', hv, hl, hc⟩ := h
  cases hv
  exact hc i x hx
theorem NumsAt.below {w w' : World} {v : Value} {l : List Int} (h : NumsAt w v l) (hb : Below w.heap.size w w') : NumsAt w' v l := by
  obtain ⟨a', c', hv, hl, hc⟩ := h
  refine ⟨a', c', hv, hl, fun i x hx => ?_⟩
  obtain ⟨b, off, h1, h2, h3⟩ := hc i x hx
  exact ⟨b, off, h1, cell_later hb h2, h3⟩
/-- the number at a place -/
def nat_ (l : List Int) (i : Nat) : Int := l.getD i 0
def one_ (l : List Int) (k : Nat) : Bool := bits BinOp.and IntKind.u16 (nat_ l (4 * k + 3)) 1 == 1
def two_ (l : List Int) (k : Nat) : Bool := bits BinOp.and IntKind.u16 (nat_ l (4 * k + 3)) 2 == 2
/-- the entities of a world of Built -/
def bes (x y : Int) (f : Bool) (u v i : Int) (g : Bool) (z : Int) : List Ent :=
  ([⟨1, [⟨1, x, y, 0, 0⟩]⟩] ++ (if f then [⟨2, [⟨1, u, v, 0, 0⟩, ⟨10, i, 0, 0, 0⟩]⟩] else [])) ++ (if g then [⟨3, [⟨10, z, 0, 0, 0⟩]⟩] else [])
def btick (l : List Int) : Nat → Int
  | 0 => 0
  | k + 1 => btick l k + (1 + nat_ l (4 * k) % 9)
def bwld (l : List Int) (k : Nat) : Wld := ⟨btick l (k + 1), bes (nat_ l (4 * k + 1) - 30000) (7 - nat_ l (4 * k + 2)) (one_ l k) (nat_ l (4 * k + 2)) (nat_ l (4 * k + 3)) (4 * k) (two_ l k) (nat_ l (4 * k))⟩
def bnum (l : List Int) : Nat := min 12 (l.length / 4)
def built (l : List Int) (k : Nat) : List Wld := (List.range k).map (bwld l)
theorem built_succ (l : List Int) (k : Nat) : built l (k + 1) = built l k ++ [bwld l k] := by unfold built; rw [List.range_succ, List.map_append, List.map_singleton]
theorem built_len (l : List Int) (k : Nat) : (built l k).length = k := by unfold built; simp
theorem nums_nat {w : World} {v : Value} {l : List Int} (h : NumsAt w v l) : ∀ i, 0 ≤ nat_ l i ∧ nat_ l i ≤ 65535 := fun i => by
  unfold nat_ List.getD
  rcases hx : l[i]? with _ | x
  · simp
  · obtain ⟨a', c', hv, hl, hc⟩ := h
    obtain ⟨b, off, h1, h2, h3⟩ := hc i x hx
    exact h3
theorem btick_bd {l : List Int} (hl : ∀ i, 0 ≤ nat_ l i ∧ nat_ l i ≤ 65535) : ∀ k, 0 ≤ btick l k ∧ btick l k ≤ 9 * k
  | 0 => by simp [btick]
  | k + 1 => by
    have := btick_bd hl k
    have := hl (4 * k)
    simp only [btick]
    omega
/-- one entity more -/
theorem FreshS.app {base : Nat} {w wn w2 : World} {v v' s : Value} {es : List Ent} {ss : List Value} {e : Ent} (h : FreshS base w v es ss) (hg : wn.grownBy w2 v.ownBlock) (h2 : w2.ownsRow base 47 2 v' (es.length + 1) (evs ((es.map Ent.id).zip ss) ++ [.int .i64 e.id, s]))
    (hl : es.length + 1 < 1099511627776) (hs : RowC w.heap.size wn s e.cs) (hw : Below w.heap.size w wn) (hb0 : base ≤ w.heap.size) : Fresh base w2 v' (es ++ [e]) := by
  obtain ⟨k0, k1, k2, k3, k4⟩ := h
  have hr := row_below k2 hw
  refine Fresh.push (w := w) ⟨ss, k1, k3, k4, h2⟩ hl (hs.grown hg hr (by decide)) hb0 fun b hb ⟨cs, hc⟩ => ?_
  exact (hg.block b (Nat.lt_of_lt_of_le hb hw.size) (cells_ne_row ((hw.block b hb).trans hc) (by decide) hr)).trans (hw.block b hb)
theorem rowC_full {w : World} {base g : Nat} {cs : Array Value} {l : List Cmp} (h : Bk w g cs 67) (hg : base ≤ g) (hc : cs.toList = cvs l) (hk : ∀ x ∈ l, 0 ≤ x.k ∧ x.k ≤ 255) (hl : l.length < 1000) : RowC base w (.slice (some ⟨g, 0, none⟩) l.length l.length) l :=
  ⟨by rw [← hc]; exact ownsRow_full h hg (by rw [← Array.length_toList, hc, cvs_len]) (by unfold maxLen; omega), hk, by omega⟩
def aAtB (w0 : World) (t x y : Int) : Array Value → Value → World → World → Prop := fun _ v w1 w2 => w0.heap.size ≤ w1.heap.size ∧ ∃ a n c, v = Wv t a n c ∧ Fresh w1.heap.size w2 (.slice a n c) [⟨1, [⟨1, x, y, 0, 0⟩]⟩]
set_option maxHeartbeats 16000000 in
theorem built_any (l : List Int) (a : Option Addr) (n c : Nat) (w : World) (h : NumsAt w (.slice a n c) l) :
    Calls Tryd.prog 8 #[.slice a n c] w fun e w' => ∃ a' n' c' ss, e = .returned (.slice a' n' c') ∧ HistF w.heap.size w' (.slice a' n' c') (built l (bnum l)) ss ∧ Below w.heap.size w w' := by
  have hlen := h.len.1
  have HL := Lib.hid hlen
  have hn := h.len.2
  obtain ⟨i0, hi, hz0, hz1, hz2⟩ := info_parts infoW
  obtain ⟨j0, hj, jz0, jz1, jz2⟩ := info_parts infoE
  have hnum := nums_nat h
  have HN := Lib.hid hnum
  have HH := Lib.hid h
  clear hlen h hnum
  go_enter Tryd.func8, Tryd.ntmps8
  go_wp2
  go_loopw [3, 4, 5] (fun v3 v4 v5 wr => ∃ (k i : Nat) (tk : Int) (a' : Option Addr) (n' c' : Nat) (ss : List Value), (k ≤ 12 ∧ i ≤ n ∧ i = 4 * k ∧ n' = k ∧ 0 ≤ tk ∧ tk ≤ 108) ∧ tk = btick l k ∧ v3 = .slice a' n' c' ∧ v4 = .int .i64 tk ∧ v5 = .int .i64 i ∧ HistF w.heap.size wr (.slice a' n' c') (built l k) ss ∧ Below w.heap.size w wr) (fun v3 v4 v5 _ => n + 4 - (intOf v5).toNat)
  case atStart => exact ⟨0, 0, 0, none, 0, 0, [], ⟨by omega, by omega, rfl, rfl, by omega, by omega⟩, rfl, rfl, rfl, rfl, HistF.nil _ _, by go_grown⟩
  case round =>
    obtain ⟨k, i, tk, a', n', c', ss, ⟨hk, hin, hik, hnk, tk0, tk1⟩, htk, rfl, rfl, rfl, hF, hb⟩ := hrel
    have HT := Lib.hid (And.intro htk hik)
    have HI := Lib.hid (And.intro hk hin)
    have hs := hb.size
    have ew : IntKind.i64.wrap ((i : Int) + 3) = i + 3 := by rw [IntKind.wrap_i64]; omega
    subst hnk
    clear htk
    by_cases hgo : i + 3 < n ∧ n' < 12
    · obtain ⟨h3, h12⟩ := hgo
      have e0 : (i : Int) + 3 < n := by omega
      have e12 : (n' : Int) < 12 := by omega
      obtain ⟨b, off, hab⟩ : ∃ b off, a = some ⟨b, off, none⟩ := by
        obtain ⟨x, hx⟩ := at_lt (l := l) (i := i) (by rw [← HL.out]; omega)
        obtain ⟨b, off, h1, -⟩ := HH.out.at hx
        exact ⟨b, off, h1⟩
      subst hab
      · have h2 : True := trivial
        have hc := fun (i : Nat) (x : Int) (hx : l[i]? = some x) => HH.out.at hx
        have hl : True := trivial
        have key : ∀ r, r < 4 → wr.cell? ⟨b, off + (i + r), none⟩ = some (.int .u16 (nat_ l (i + r))) := fun r hr => by
          obtain ⟨x, hx⟩ := at_lt (l := l) (i := i + r) (by rw [← HL.out]; omega)
          obtain ⟨b', off', he, this, -⟩ := hc _ x hx
          cases he
          rw [cell_later hb this]
          unfold nat_ List.getD
          rw [hx]
          rfl
        obtain ⟨y0, hy0⟩ : ∃ y, nat_ l i = y := ⟨_, rfl⟩
        obtain ⟨y1, hy1⟩ : ∃ y, nat_ l (i + 1) = y := ⟨_, rfl⟩
        obtain ⟨y2, hy2⟩ : ∃ y, nat_ l (i + 2) = y := ⟨_, rfl⟩
        obtain ⟨y3, hy3⟩ : ∃ y, nat_ l (i + 3) = y := ⟨_, rfl⟩
        have x0 := key 0 (by omega)
        have x1 := key 1 (by omega)
        have x2 := key 2 (by omega)
        have x3 := key 3 (by omega)
        rw [Nat.add_zero, hy0] at x0
        rw [hy1] at x1
        rw [hy2] at x2
        rw [hy3] at x3
        have b0 := HN.out i
        have b1 := HN.out (i + 1)
        have b2 := HN.out (i + 2)
        have b3 := HN.out (i + 3)
        rw [hy0] at b0
        rw [hy1] at b1
        rw [hy2] at b2
        rw [hy3] at b3
        have HY := Lib.hid (And.intro hy0 (And.intro hy1 (And.intro hy2 hy3)))
        clear hy0 hy1 hy2 hy3 key hc hl h2
        obtain ⟨b00, b01⟩ := b0
        obtain ⟨b10, b11⟩ := b1
        obtain ⟨b20, b21⟩ := b2
        obtain ⟨b30, b31⟩ := b3
        have m0 : Int.tmod y0 9 = y0 % 9 := Int.tmod_eq_emod_of_nonneg b00
        obtain ⟨d, hd⟩ : ∃ d, y0 % 9 = d := ⟨_, rfl⟩
        have hd0 : 0 ≤ d ∧ d < 9 := by omega
        obtain ⟨d0, d1⟩ := hd0
        rw [hd] at m0
        have HD := Lib.hid hd
        clear hd hk hin hik
        go_wp2
        obtain ⟨tq, htq⟩ : ∃ tq, tk + (1 + d) = tq := ⟨_, rfl⟩
        have tq0 : 0 ≤ tq ∧ tq ≤ 117 := by omega
        have HTQ := Lib.hid htq
        rw [htq]
        clear htq
        obtain ⟨tq0, tq1⟩ := tq0
        obtain ⟨px, hpx⟩ : ∃ px, y1 - 30000 = px := ⟨_, rfl⟩
        obtain ⟨py, hpy⟩ : ∃ py, 7 - y2 = py := ⟨_, rfl⟩
        have HP := Lib.hid (And.intro hpx hpy)
        have ein : i < n := by omega
        have e1 : (i : Int) + 1 < n := by omega
        have e2 : (i : Int) + 2 < n := by omega
        have f0 : (0 : Int) ≤ i := by omega
        have f1 : (0 : Int) ≤ (i : Int) + 1 := by omega
        have f2 : (0 : Int) ≤ (i : Int) + 2 := by omega
        have f3 : (0 : Int) ≤ (i : Int) + 3 := by omega
        have w1 : IntKind.i64.wrap ((i : Int) + 1) = i + 1 := by rw [IntKind.wrap_i64]; omega
        have w2 : IntKind.i64.wrap ((i : Int) + 2) = i + 2 := by rw [IntKind.wrap_i64]; omega
        have v0 : IntKind.i64.wrap y0 = y0 := by rw [IntKind.wrap_i64]; omega
        have v1 : IntKind.i64.wrap y1 = y1 := by rw [IntKind.wrap_i64]; omega
        have v2 : IntKind.i64.wrap y2 = y2 := by rw [IntKind.wrap_i64]; omega
        have v3 : IntKind.i64.wrap y3 = y3 := by rw [IntKind.wrap_i64]; omega
        have v4 : IntKind.i64.wrap px = px := by rw [IntKind.wrap_i64]; omega
        have v5 : IntKind.i64.wrap py = py := by rw [IntKind.wrap_i64]; omega
        have t1 : ((i : Int) + 1).toNat = i + 1 := by omega
        have t2 : ((i : Int) + 2).toNat = i + 2 := by omega
        have t3 : ((i : Int) + 3).toNat = i + 3 := by omega
        have c1 := cell_regrown x1
        have c2 := cell_regrown x2
        refine wp_region_low2 (post1 12 (aAtB wr tq px py)) 17 (by kernel_rfl) (by kernel_rfl) ?_
        simp only [List.take, List.drop]
        iterate 15 (refine low2_step (fun K hK => ?_); go_simp; first | (refine hK _ ?_; clear hK K) | (apply Exists.intro; refine ⟨fun p => ?_, hK _ ?_⟩; clear hK K))
        refine low2_call 12 #[.int .i64 tq, .int .i64 px, .int .i64 py] (aAtB wr tq px py) (by rfl) (fun w => by go_simp; try rfl) (post1_same _ _) (fun V1 hV _ => ?_) ?_
        · refine (at_any tq px py V1).mono ?_
          rintro e V' ⟨o, on, oc, rfl, h1, h2⟩
          exact ⟨_, rfl, ⟨hV.size, o, on, oc, rfl, h1⟩, h2⟩
        rintro v ⟨_, _, -, ea, en, ec, rfl, -⟩
        refine low2_new (.cells #[.int .i64 0, .slice none 0 0] 27) (by rfl) (fun w => by go_simp; try rfl) ?_
        intro g
        refine low2_nil ?_
        intro W1 hC
        have hb1 := hC.1
        obtain ⟨zg, BW⟩ : _ ∧ Bk W1 g #[.int .i64 0, .slice none 0 0] 27 := hC.made 16 _ rfl
        obtain ⟨u1, u2, ⟨hu0, _, _, _, he1, hE⟩, hu1, hu2⟩ := hC.made 15 _ rfl
        have hE1 := (hE.below hu2).mono hu0
        cases he1
        clear hE hu1 hu2 hC c1 c2 hu0
        have q0 := BW.cell (v := .int .i64 0) 0 rfl
        have q1 := BW.cell (v := .slice none 0 0) 1 rfl
        have fr0 := BW.free 0
        have fr1 := BW.free 1
        have ltg := BW.lt
        have x0' := cell_later hb1 x0
        have x2' := cell_later hb1 x2
        have x3' := cell_later hb1 x3
        have ltb := World.block_lt_of_cell? wr _ x0
        have HE1 := Lib.hid hE1
        have HW := Lib.hid (And.intro zg (And.intro BW hb1))
        obtain ⟨p, hp⟩ : ∃ p, (bits BinOp.and IntKind.u16 y3 1 == 1) = p := ⟨_, rfl⟩
        obtain ⟨q, hq⟩ : ∃ q, (bits BinOp.and IntKind.u16 y3 2 == 2) = q := ⟨_, rfl⟩
        have HES : (bwld l n').es = bes px py p y2 y3 i q y0 := by
          unfold bwld one_ two_
          simp only
          rw [← HT.out.2, HY.out.1, HY.out.2.1, HY.out.2.2.1, HY.out.2.2.2, HP.out.1, HP.out.2, hp, hq]
          rw [HT.out.2]; simp
        have HTT : (bwld l n').t = tq := by
          show btick l n' + (1 + nat_ l (4 * n') % 9) = tq
          rw [← HT.out.2, HY.out.1, HD.out, ← HT.out.1, HTQ.out]
        have HB := Lib.hid (And.intro HES HTT)
        clear HES HTT hb1 hE1 BW hpx hpy
        have GO := w.heap.size
        clear GO
        cases p
        · cases q
          · go_wp2_with (at_builtin; refine wpL_name (fun V => Bk V W1.heap.size #[.int .i64 tq, .slice ea en ec] 27 ∧ Fresh wr.heap.size V (.slice ea en ec) ([⟨1, [⟨1, px, py, 0, 0⟩]⟩]) ∧ Below wr.heap.size wr V) ⟨Bk.at_ (by simp), ((HE1.out.set (p := ⟨g, 0, none⟩) HW.out.2.1 (by decide) (by decide) _).set (p := ⟨g, 1, none⟩) (HW.out.2.1.put 0 _) (by decide) (by decide) _).below ((Below.refl _ _).alloc (Nat.le_refl _) _), ((HW.out.2.2.setCell (p := ⟨g, 0, none⟩) HW.out.1 _).setCell (p := ⟨g, 1, none⟩) HW.out.1 _).alloc (by simp; omega) _⟩ ?_)
            first | rintro V BV hEV hbV | rintro V ⟨BV, hEV, hbV⟩
            have hsV := hbV.size
            have hown := row_below hF.2.2.1 hbV
            have hlb := built_len l n'
            rw [hlb] at hown
            have C1 : ∀ (j : Nat) u, [Value.int .i64 tq, .slice ea en ec][j]? = some u → V.cell? ((⟨W1.heap.size, 0, none⟩ : Addr).add j) = some u := by
              intro j u hj
              rw [Addr.add_lit, Nat.zero_add]
              match j, hj with
              | 0, hj => cases hj; exact BV.cell 0 rfl
              | 1, hj => cases hj; exact BV.cell 1 rfl
            have C2 : ∀ u ∈ [Value.int .i64 tq, .slice ea en ec], u.oneCell' = true := by
              intro u hu; simp at hu; rcases hu with rfl | rfl <;> rfl
            refine wpList_append_mine _ rfl _ _ 23 rfl w.heap.size 27 i0 (.agg #[.int .i64 0, .slice none 0 0]) 2 32 Tryd.underlying23 hi hz0 hz1 hz2 rfl (by decide) _ _ _ rfl hown ⟨W1.heap.size, 0, none⟩ 1 1 [.int .i64 tq, .slice ea en ec] rfl rfl C1 C2 (by decide) (by unfold maxLen; omega) (by omega) (Nat.le_trans hs hsV) ?_
            intro gb cap' w2 hown' hgrow hgb
            change V.grownBy w2 (Value.slice a' n' c').ownBlock at hgrow
            have hFF := hF.app (v' := .slice (some ⟨gb, 0, none⟩) (n' + 1) cap') (W := bwld l n') (s := .slice ea en ec) (w1 := wr) hgrow (by rw [hlb, HB.out.2]; exact hown') (by rw [hlb]; omega) (by rw [HB.out.1]; exact hEV) hbV (Nat.le_refl _) hs
            have hbw2 : Below w.heap.size w w2 := (hb.trans (hbV.mono hs)).grown hgrow (Nat.le_trans hs hsV) (fun b hb' => (hown.lt b hb').1)
            clear hown' hgrow hown C1 C2 hgb hbV hEV BV hlb
            go_wp2
            go_roundw
            case rel => exact ⟨n' + 1, i + 4, tq, _, n' + 1, _, _, ⟨by omega, by omega, by rw [HT.out.2, Nat.mul_add], rfl, tq0, by have := btick_bd HN.out (n' + 1); have h2 := HB.out.2; have h3 : btick l (n' + 1) = tq := h2; rw [h3] at this; omega⟩, HB.out.2.symm, rfl, rfl, by go_num, by rw [built_succ]; exact hFF, hbw2⟩
            case measure => simp [intOf]; omega
          · go_wp2_with fail
            refine wp_name (fun V => Bk V g #[.int .i64 tq, .slice ea en ec] 27 ∧ Fresh wr.heap.size V (.slice ea en ec) ([⟨1, [⟨1, px, py, 0, 0⟩]⟩]) ∧ Below wr.heap.size wr V) ⟨((HW.out.2.1.put 0 _).put 1 _), ((HE1.out.set (p := ⟨g, 0, none⟩) HW.out.2.1 (by decide) (by decide) _).set (p := ⟨g, 1, none⟩) (HW.out.2.1.put 0 _) (by decide) (by decide) _), ((HW.out.2.2.setCell (p := ⟨g, 0, none⟩) HW.out.1 _).setCell (p := ⟨g, 1, none⟩) HW.out.1 _)⟩ ?_
            clear q0 q1 fr0 fr1 ltg
            rintro V ⟨BV, hEV, hbV⟩
            have hsV := hbV.size
            have d0 := cell_regrown (BV.cell (v := .int .i64 tq) 0 rfl)
            have d1 := cell_regrown (BV.cell (v := .slice ea en ec) 1 rfl)
            have k0 := cell_regrown (cell_later hbV x0)
            have k2 := cell_regrown (cell_later hbV x2)
            have k3 := cell_regrown (cell_later hbV x3)
            refine wp_region_low2 noPosts 12 (by kernel_rfl) (by kernel_rfl) ?_
            simp only [List.take, List.drop]
            iterate 9 (refine low2_step (fun K hK => ?_); go_simp; first | (refine hK _ ?_; clear hK K) | (apply Exists.intro; refine ⟨fun p => ?_, hK _ ?_⟩; clear hK K))
            refine low2_slice 1 1 (.cells #[.int .u8 10, .int .i64 y0, .int .i64 0, .int .i64 0, .int .i64 0] 67) (by rfl) (fun w => by go_simp; try rfl) ?_
            intro g1
            iterate 1 (refine low2_step (fun K hK => ?_); go_simp; first | (refine hK _ ?_; clear hK K) | (apply Exists.intro; refine ⟨fun p => ?_, hK _ ?_⟩; clear hK K))
            refine low2_slice 1 1 (.cells #[.int .i64 3, .slice (some ⟨g1, 0, none⟩) 1 1] 47) (by rfl) (fun w => by go_simp; try rfl) ?_
            intro g3
            refine low2_nil ?_
            intro W2 hC
            have hb2 := hC.1
            obtain ⟨z1, B1⟩ : _ ∧ Bk W2 g1 #[.int .u8 10, .int .i64 y0, .int .i64 0, .int .i64 0, .int .i64 0] 67 := hC.made 9 _ rfl
            obtain ⟨z3, B3⟩ : _ ∧ Bk W2 g3 #[.int .i64 3, .slice (some ⟨g1, 0, none⟩) 1 1] 47 := hC.made 11 _ rfl
            clear d0 d1 k0 k2 k3 hC
            have DV := BV.below hb2
            obtain ⟨ss2, hES⟩ := hEV.open
            have hown := row_below hES.2.2.1 hb2
            have hRow : RowC V.heap.size W2 (.slice (some ⟨g1, 0, none⟩) 1 1) (⟨3, [⟨10, y0, 0, 0, 0⟩]⟩ : Ent).cs := rowC_full (l := (⟨3, [⟨10, y0, 0, 0, 0⟩]⟩ : Ent).cs) B1 z1 rfl (by intro x hx; simp at hx; first | (rcases hx with rfl | rfl <;> exact ⟨by simp, by simp⟩) | (subst hx; exact ⟨by simp, by simp⟩)) (by simp)
            have hW2 := hb2.size
            have C1 : ∀ (j : Nat) u, [Value.int .i64 3, .slice (some ⟨g1, 0, none⟩) 1 1][j]? = some u → W2.cell? ((⟨g3, 0, none⟩ : Addr).add j) = some u := by
              intro j u hj
              rw [Addr.add_lit, Nat.zero_add]
              match j, hj with
              | 0, hj => cases hj; exact B3.cell 0 rfl
              | 1, hj => cases hj; exact B3.cell 1 rfl
            have C2 : ∀ u ∈ [Value.int .i64 3, .slice (some ⟨g1, 0, none⟩) 1 1], u.oneCell' = true := by
              intro u hu; simp at hu; rcases hu with rfl | rfl <;> rfl
            refine wpList_append_mine _ rfl _ _ 25 rfl wr.heap.size 47 j0 (.agg #[.int .i64 0, .slice none 0 0]) 2 32 Tryd.underlying25 hj jz0 jz1 jz2 rfl (by decide) _ _ _ rfl hown ⟨g3, 0, none⟩ 1 1 [.int .i64 3, .slice (some ⟨g1, 0, none⟩) 1 1] rfl rfl C1 C2 (by decide) (by simp; decide) (by simp) (Nat.le_trans hsV hW2) ?_
            intro gb cap' w1 hown' hgrow hgb
            change W2.grownBy w1 (Value.slice ea en ec).ownBlock at hgrow
            have hFr := hES.app (v' := .slice (some ⟨gb, 0, none⟩) 2 cap') (e := ⟨3, [⟨10, y0, 0, 0, 0⟩]⟩) hgrow hown' (by simp) hRow hb2 hsV
            have D1 : Bk w1 g #[.int .i64 tq, .slice ea en ec] 27 := (hgrow.block _ DV.lt (bk_ne_row DV (by decide) hown)).trans DV
            have hbw : Below wr.heap.size wr w1 := (hbV.trans (hb2.mono hsV)).grown hgrow (Nat.le_trans hsV hW2) (fun b hb' => (hown.lt b hb').1)
            have hsw := hbw.size
            clear hown' hgrow hRow hown hES B1 B3 z1 z3 hb2 C1 C2 DV hbV hEV BV hgb hsV hW2
            have q1 := D1.cell (v := .slice ea en ec) 1 rfl
            have q0 := D1.cell (v := .int .i64 tq) 0 rfl
            have fr1 := D1.free 1
            have ltg := D1.lt
            have x0' := cell_later hbw x0
            have x3' := cell_later hbw x3
            go_wp2_with (at_builtin; refine wpL_name (fun V => Bk V w1.heap.size #[.int .i64 tq, .slice (some ⟨gb, 0, none⟩) 2 cap'] 27 ∧ Fresh wr.heap.size V (.slice (some ⟨gb, 0, none⟩) 2 cap') ([⟨1, [⟨1, px, py, 0, 0⟩]⟩] ++ [⟨3, [⟨10, y0, 0, 0, 0⟩]⟩]) ∧ Below wr.heap.size wr V) ⟨Bk.at_ (by simp), (hFr.set (p := ⟨g, 1, none⟩) D1 (by decide) (by decide) _).below ((Below.refl _ _).alloc (Nat.le_refl _) _), (hbw.setCell (p := ⟨g, 1, none⟩) HW.out.1 _).alloc (by simp; omega) _⟩ ?_)
            first | rintro V BV hEV hbV | rintro V ⟨BV, hEV, hbV⟩
            have hsV := hbV.size
            have hown := row_below hF.2.2.1 hbV
            have hlb := built_len l n'
            rw [hlb] at hown
            have C1 : ∀ (j : Nat) u, [Value.int .i64 tq, .slice (some ⟨gb, 0, none⟩) 2 cap'][j]? = some u → V.cell? ((⟨w1.heap.size, 0, none⟩ : Addr).add j) = some u := by
              intro j u hj
              rw [Addr.add_lit, Nat.zero_add]
              match j, hj with
              | 0, hj => cases hj; exact BV.cell 0 rfl
              | 1, hj => cases hj; exact BV.cell 1 rfl
            have C2 : ∀ u ∈ [Value.int .i64 tq, .slice (some ⟨gb, 0, none⟩) 2 cap'], u.oneCell' = true := by
              intro u hu; simp at hu; rcases hu with rfl | rfl <;> rfl
            refine wpList_append_mine _ rfl _ _ 23 rfl w.heap.size 27 i0 (.agg #[.int .i64 0, .slice none 0 0]) 2 32 Tryd.underlying23 hi hz0 hz1 hz2 rfl (by decide) _ _ _ rfl hown ⟨w1.heap.size, 0, none⟩ 1 1 [.int .i64 tq, .slice (some ⟨gb, 0, none⟩) 2 cap'] rfl rfl C1 C2 (by decide) (by unfold maxLen; omega) (by omega) (Nat.le_trans hs hsV) ?_
            intro gc cap2 w2 hown' hgrow hgb
            change V.grownBy w2 (Value.slice a' n' c').ownBlock at hgrow
            have hFF := hF.app (v' := .slice (some ⟨gc, 0, none⟩) (n' + 1) cap2) (W := bwld l n') (s := .slice (some ⟨gb, 0, none⟩) 2 cap') (w1 := wr) hgrow (by rw [hlb, HB.out.2]; exact hown') (by rw [hlb]; omega) (by rw [HB.out.1]; exact hEV) hbV (Nat.le_refl _) hs
            have hbw2 : Below w.heap.size w w2 := (hb.trans (hbV.mono hs)).grown hgrow (Nat.le_trans hs hsV) (fun b hb' => (hown.lt b hb').1)
            clear hown' hgrow hown C1 C2 hgb hbV hEV BV hlb
            go_wp2
            go_roundw
            case rel => exact ⟨n' + 1, i + 4, tq, _, n' + 1, _, _, ⟨by omega, by omega, by rw [HT.out.2, Nat.mul_add], rfl, tq0, by have := btick_bd HN.out (n' + 1); have h2 := HB.out.2; have h3 : btick l (n' + 1) = tq := h2; rw [h3] at this; omega⟩, HB.out.2.symm, rfl, rfl, by go_num, by rw [built_succ]; exact hFF, hbw2⟩
            case measure => simp [intOf]; omega
        · go_wp2_with fail
          refine wp_name (fun V => Bk V g #[.int .i64 tq, .slice ea en ec] 27 ∧ Fresh wr.heap.size V (.slice ea en ec) ([⟨1, [⟨1, px, py, 0, 0⟩]⟩]) ∧ Below wr.heap.size wr V) ⟨((HW.out.2.1.put 0 _).put 1 _), ((HE1.out.set (p := ⟨g, 0, none⟩) HW.out.2.1 (by decide) (by decide) _).set (p := ⟨g, 1, none⟩) (HW.out.2.1.put 0 _) (by decide) (by decide) _), ((HW.out.2.2.setCell (p := ⟨g, 0, none⟩) HW.out.1 _).setCell (p := ⟨g, 1, none⟩) HW.out.1 _)⟩ ?_
          clear q0 q1 fr0 fr1 ltg
          rintro V ⟨BV, hEV, hbV⟩
          have hsV := hbV.size
          have d0 := cell_regrown (BV.cell (v := .int .i64 tq) 0 rfl)
          have d1 := cell_regrown (BV.cell (v := .slice ea en ec) 1 rfl)
          have k0 := cell_regrown (cell_later hbV x0)
          have k2 := cell_regrown (cell_later hbV x2)
          have k3 := cell_regrown (cell_later hbV x3)
          refine wp_region_low2 noPosts 22 (by kernel_rfl) (by kernel_rfl) ?_
          simp only [List.take, List.drop]
          iterate 19 (refine low2_step (fun K hK => ?_); go_simp; first | (refine hK _ ?_; clear hK K) | (apply Exists.intro; refine ⟨fun p => ?_, hK _ ?_⟩; clear hK K))
          refine low2_slice 2 2 (.cells #[.int .u8 1, .int .i64 y2, .int .i64 y3, .int .i64 0, .int .i64 0, .int .u8 10, .int .i64 i, .int .i64 0, .int .i64 0, .int .i64 0] 67) (by rfl) (fun w => by go_simp; try rfl) ?_
          intro g1
          iterate 1 (refine low2_step (fun K hK => ?_); go_simp; first | (refine hK _ ?_; clear hK K) | (apply Exists.intro; refine ⟨fun p => ?_, hK _ ?_⟩; clear hK K))
          refine low2_slice 1 1 (.cells #[.int .i64 2, .slice (some ⟨g1, 0, none⟩) 2 2] 47) (by rfl) (fun w => by go_simp; try rfl) ?_
          intro g3
          refine low2_nil ?_
          intro W2 hC
          have hb2 := hC.1
          obtain ⟨z1, B1⟩ : _ ∧ Bk W2 g1 #[.int .u8 1, .int .i64 y2, .int .i64 y3, .int .i64 0, .int .i64 0, .int .u8 10, .int .i64 i, .int .i64 0, .int .i64 0, .int .i64 0] 67 := hC.made 19 _ rfl
          obtain ⟨z3, B3⟩ : _ ∧ Bk W2 g3 #[.int .i64 2, .slice (some ⟨g1, 0, none⟩) 2 2] 47 := hC.made 21 _ rfl
          clear d0 d1 k0 k2 k3 hC
          have DV := BV.below hb2
          obtain ⟨ss2, hES⟩ := hEV.open
          have hown := row_below hES.2.2.1 hb2
          have hRow : RowC V.heap.size W2 (.slice (some ⟨g1, 0, none⟩) 2 2) (⟨2, [⟨1, y2, y3, 0, 0⟩, ⟨10, (i : Int), 0, 0, 0⟩]⟩ : Ent).cs := rowC_full (l := (⟨2, [⟨1, y2, y3, 0, 0⟩, ⟨10, (i : Int), 0, 0, 0⟩]⟩ : Ent).cs) B1 z1 rfl (by intro x hx; simp at hx; first | (rcases hx with rfl | rfl <;> exact ⟨by simp, by simp⟩) | (subst hx; exact ⟨by simp, by simp⟩)) (by simp)
          have hW2 := hb2.size
          have C1 : ∀ (j : Nat) u, [Value.int .i64 2, .slice (some ⟨g1, 0, none⟩) 2 2][j]? = some u → W2.cell? ((⟨g3, 0, none⟩ : Addr).add j) = some u := by
            intro j u hj
            rw [Addr.add_lit, Nat.zero_add]
            match j, hj with
            | 0, hj => cases hj; exact B3.cell 0 rfl
            | 1, hj => cases hj; exact B3.cell 1 rfl
          have C2 : ∀ u ∈ [Value.int .i64 2, .slice (some ⟨g1, 0, none⟩) 2 2], u.oneCell' = true := by
            intro u hu; simp at hu; rcases hu with rfl | rfl <;> rfl
          refine wpList_append_mine _ rfl _ _ 25 rfl wr.heap.size 47 j0 (.agg #[.int .i64 0, .slice none 0 0]) 2 32 Tryd.underlying25 hj jz0 jz1 jz2 rfl (by decide) _ _ _ rfl hown ⟨g3, 0, none⟩ 1 1 [.int .i64 2, .slice (some ⟨g1, 0, none⟩) 2 2] rfl rfl C1 C2 (by decide) (by simp; decide) (by simp) (Nat.le_trans hsV hW2) ?_
          intro gb cap' w1 hown' hgrow hgb
          change W2.grownBy w1 (Value.slice ea en ec).ownBlock at hgrow
          have hFr := hES.app (v' := .slice (some ⟨gb, 0, none⟩) 2 cap') (e := ⟨2, [⟨1, y2, y3, 0, 0⟩, ⟨10, (i : Int), 0, 0, 0⟩]⟩) hgrow hown' (by simp) hRow hb2 hsV
          have D1 : Bk w1 g #[.int .i64 tq, .slice ea en ec] 27 := (hgrow.block _ DV.lt (bk_ne_row DV (by decide) hown)).trans DV
          have hbw : Below wr.heap.size wr w1 := (hbV.trans (hb2.mono hsV)).grown hgrow (Nat.le_trans hsV hW2) (fun b hb' => (hown.lt b hb').1)
          have hsw := hbw.size
          clear hown' hgrow hRow hown hES B1 B3 z1 z3 hb2 C1 C2 DV hbV hEV BV hgb hsV hW2
          have q1 := D1.cell (v := .slice ea en ec) 1 rfl
          have q0 := D1.cell (v := .int .i64 tq) 0 rfl
          have fr1 := D1.free 1
          have ltg := D1.lt
          have x0' := cell_later hbw x0
          have x3' := cell_later hbw x3
          cases q
          · go_wp2_with (at_builtin; refine wpL_name (fun V => Bk V w1.heap.size #[.int .i64 tq, .slice (some ⟨gb, 0, none⟩) 2 cap'] 27 ∧ Fresh wr.heap.size V (.slice (some ⟨gb, 0, none⟩) 2 cap') ([⟨1, [⟨1, px, py, 0, 0⟩]⟩] ++ [⟨2, [⟨1, y2, y3, 0, 0⟩, ⟨10, (i : Int), 0, 0, 0⟩]⟩]) ∧ Below wr.heap.size wr V) ⟨Bk.at_ (by simp), (hFr.set (p := ⟨g, 1, none⟩) D1 (by decide) (by decide) _).below ((Below.refl _ _).alloc (Nat.le_refl _) _), (hbw.setCell (p := ⟨g, 1, none⟩) HW.out.1 _).alloc (by simp; omega) _⟩ ?_)
            first | rintro V BV hEV hbV | rintro V ⟨BV, hEV, hbV⟩
            have hsV := hbV.size
            have hown := row_below hF.2.2.1 hbV
            have hlb := built_len l n'
            rw [hlb] at hown
            have C1 : ∀ (j : Nat) u, [Value.int .i64 tq, .slice (some ⟨gb, 0, none⟩) 2 cap'][j]? = some u → V.cell? ((⟨w1.heap.size, 0, none⟩ : Addr).add j) = some u := by
              intro j u hj
              rw [Addr.add_lit, Nat.zero_add]
              match j, hj with
              | 0, hj => cases hj; exact BV.cell 0 rfl
              | 1, hj => cases hj; exact BV.cell 1 rfl
            have C2 : ∀ u ∈ [Value.int .i64 tq, .slice (some ⟨gb, 0, none⟩) 2 cap'], u.oneCell' = true := by
              intro u hu; simp at hu; rcases hu with rfl | rfl <;> rfl
            refine wpList_append_mine _ rfl _ _ 23 rfl w.heap.size 27 i0 (.agg #[.int .i64 0, .slice none 0 0]) 2 32 Tryd.underlying23 hi hz0 hz1 hz2 rfl (by decide) _ _ _ rfl hown ⟨w1.heap.size, 0, none⟩ 1 1 [.int .i64 tq, .slice (some ⟨gb, 0, none⟩) 2 cap'] rfl rfl C1 C2 (by decide) (by unfold maxLen; omega) (by omega) (Nat.le_trans hs hsV) ?_
            intro gc cap2 w2 hown' hgrow hgb
            change V.grownBy w2 (Value.slice a' n' c').ownBlock at hgrow
            have hFF := hF.app (v' := .slice (some ⟨gc, 0, none⟩) (n' + 1) cap2) (W := bwld l n') (s := .slice (some ⟨gb, 0, none⟩) 2 cap') (w1 := wr) hgrow (by rw [hlb, HB.out.2]; exact hown') (by rw [hlb]; omega) (by rw [HB.out.1]; exact hEV) hbV (Nat.le_refl _) hs
            have hbw2 : Below w.heap.size w w2 := (hb.trans (hbV.mono hs)).grown hgrow (Nat.le_trans hs hsV) (fun b hb' => (hown.lt b hb').1)
            clear hown' hgrow hown C1 C2 hgb hbV hEV BV hlb
            go_wp2
            go_roundw
            case rel => exact ⟨n' + 1, i + 4, tq, _, n' + 1, _, _, ⟨by omega, by omega, by rw [HT.out.2, Nat.mul_add], rfl, tq0, by have := btick_bd HN.out (n' + 1); have h2 := HB.out.2; have h3 : btick l (n' + 1) = tq := h2; rw [h3] at this; omega⟩, HB.out.2.symm, rfl, rfl, by go_num, by rw [built_succ]; exact hFF, hbw2⟩
            case measure => simp [intOf]; omega
          · go_wp2_with fail
            refine wp_name (fun V => Bk V g #[.int .i64 tq, .slice (some ⟨gb, 0, none⟩) 2 cap'] 27 ∧ Fresh wr.heap.size V (.slice (some ⟨gb, 0, none⟩) 2 cap') ([⟨1, [⟨1, px, py, 0, 0⟩]⟩] ++ [⟨2, [⟨1, y2, y3, 0, 0⟩, ⟨10, (i : Int), 0, 0, 0⟩]⟩]) ∧ Below wr.heap.size wr V) ⟨(D1.put 1 _), (hFr.set (p := ⟨g, 1, none⟩) D1 (by decide) (by decide) _), (hbw.setCell (p := ⟨g, 1, none⟩) HW.out.1 _)⟩ ?_
            clear q0 q1 fr1 ltg
            rintro V ⟨BV, hEV, hbV⟩
            have hsV := hbV.size
            have d0 := cell_regrown (BV.cell (v := .int .i64 tq) 0 rfl)
            have d1 := cell_regrown (BV.cell (v := .slice (some ⟨gb, 0, none⟩) 2 cap') 1 rfl)
            have k0 := cell_regrown (cell_later hbV x0)
            have k2 := cell_regrown (cell_later hbV x2)
            have k3 := cell_regrown (cell_later hbV x3)
            refine wp_region_low2 noPosts 12 (by kernel_rfl) (by kernel_rfl) ?_
            simp only [List.take, List.drop]
            iterate 9 (refine low2_step (fun K hK => ?_); go_simp; first | (refine hK _ ?_; clear hK K) | (apply Exists.intro; refine ⟨fun p => ?_, hK _ ?_⟩; clear hK K))
            refine low2_slice 1 1 (.cells #[.int .u8 10, .int .i64 y0, .int .i64 0, .int .i64 0, .int .i64 0] 67) (by rfl) (fun w => by go_simp; try rfl) ?_
            intro g1
            iterate 1 (refine low2_step (fun K hK => ?_); go_simp; first | (refine hK _ ?_; clear hK K) | (apply Exists.intro; refine ⟨fun p => ?_, hK _ ?_⟩; clear hK K))
            refine low2_slice 1 1 (.cells #[.int .i64 3, .slice (some ⟨g1, 0, none⟩) 1 1] 47) (by rfl) (fun w => by go_simp; try rfl) ?_
            intro g3
            refine low2_nil ?_
            intro W2 hC
            have hb2 := hC.1
            obtain ⟨z1, B1⟩ : _ ∧ Bk W2 g1 #[.int .u8 10, .int .i64 y0, .int .i64 0, .int .i64 0, .int .i64 0] 67 := hC.made 9 _ rfl
            obtain ⟨z3, B3⟩ : _ ∧ Bk W2 g3 #[.int .i64 3, .slice (some ⟨g1, 0, none⟩) 1 1] 47 := hC.made 11 _ rfl
            clear d0 d1 k0 k2 k3 hC
            have DV := BV.below hb2
            obtain ⟨ss2, hES⟩ := hEV.open
            have hown := row_below hES.2.2.1 hb2
            have hRow : RowC V.heap.size W2 (.slice (some ⟨g1, 0, none⟩) 1 1) (⟨3, [⟨10, y0, 0, 0, 0⟩]⟩ : Ent).cs := rowC_full (l := (⟨3, [⟨10, y0, 0, 0, 0⟩]⟩ : Ent).cs) B1 z1 rfl (by intro x hx; simp at hx; first | (rcases hx with rfl | rfl <;> exact ⟨by simp, by simp⟩) | (subst hx; exact ⟨by simp, by simp⟩)) (by simp)
            have hW2 := hb2.size
            have C1 : ∀ (j : Nat) u, [Value.int .i64 3, .slice (some ⟨g1, 0, none⟩) 1 1][j]? = some u → W2.cell? ((⟨g3, 0, none⟩ : Addr).add j) = some u := by
              intro j u hj
              rw [Addr.add_lit, Nat.zero_add]
              match j, hj with
              | 0, hj => cases hj; exact B3.cell 0 rfl
              | 1, hj => cases hj; exact B3.cell 1 rfl
            have C2 : ∀ u ∈ [Value.int .i64 3, .slice (some ⟨g1, 0, none⟩) 1 1], u.oneCell' = true := by
              intro u hu; simp at hu; rcases hu with rfl | rfl <;> rfl
            refine wpList_append_mine _ rfl _ _ 25 rfl wr.heap.size 47 j0 (.agg #[.int .i64 0, .slice none 0 0]) 2 32 Tryd.underlying25 hj jz0 jz1 jz2 rfl (by decide) _ _ _ rfl hown ⟨g3, 0, none⟩ 1 1 [.int .i64 3, .slice (some ⟨g1, 0, none⟩) 1 1] rfl rfl C1 C2 (by decide) (by simp; decide) (by simp) (Nat.le_trans hsV hW2) ?_
            intro gd cap3 w3 hown' hgrow hgd
            change W2.grownBy w3 (Value.slice (some ⟨gb, 0, none⟩) 2 cap').ownBlock at hgrow
            have hFr := hES.app (v' := .slice (some ⟨gd, 0, none⟩) 3 cap3) (e := ⟨3, [⟨10, y0, 0, 0, 0⟩]⟩) hgrow hown' (by simp) hRow hb2 hsV
            have D1 : Bk w3 g #[.int .i64 tq, .slice (some ⟨gb, 0, none⟩) 2 cap'] 27 := (hgrow.block _ DV.lt (bk_ne_row DV (by decide) hown)).trans DV
            have hbw : Below wr.heap.size wr w3 := (hbV.trans (hb2.mono hsV)).grown hgrow (Nat.le_trans hsV hW2) (fun b hb' => (hown.lt b hb').1)
            have hsw := hbw.size
            clear hown' hgrow hRow hown hES B1 B3 z1 z3 hb2 C1 C2 DV hbV hEV BV hgd hsV hW2
            have q1 := D1.cell (v := .slice (some ⟨gb, 0, none⟩) 2 cap') 1 rfl
            have q0 := D1.cell (v := .int .i64 tq) 0 rfl
            have fr1 := D1.free 1
            have ltg := D1.lt
            have x0' := cell_later hbw x0
            have x3' := cell_later hbw x3
            go_wp2_with (at_builtin; refine wpL_name (fun V => Bk V w3.heap.size #[.int .i64 tq, .slice (some ⟨gd, 0, none⟩) 3 cap3] 27 ∧ Fresh wr.heap.size V (.slice (some ⟨gd, 0, none⟩) 3 cap3) ([⟨1, [⟨1, px, py, 0, 0⟩]⟩] ++ [⟨2, [⟨1, y2, y3, 0, 0⟩, ⟨10, (i : Int), 0, 0, 0⟩]⟩] ++ [⟨3, [⟨10, y0, 0, 0, 0⟩]⟩]) ∧ Below wr.heap.size wr V) ⟨Bk.at_ (by simp), (hFr.set (p := ⟨g, 1, none⟩) D1 (by decide) (by decide) _).below ((Below.refl _ _).alloc (Nat.le_refl _) _), (hbw.setCell (p := ⟨g, 1, none⟩) HW.out.1 _).alloc (by simp; omega) _⟩ ?_)
            first | rintro V BV hEV hbV | rintro V ⟨BV, hEV, hbV⟩
            have hsV := hbV.size
            have hown := row_below hF.2.2.1 hbV
            have hlb := built_len l n'
            rw [hlb] at hown
            have C1 : ∀ (j : Nat) u, [Value.int .i64 tq, .slice (some ⟨gd, 0, none⟩) 3 cap3][j]? = some u → V.cell? ((⟨w3.heap.size, 0, none⟩ : Addr).add j) = some u := by
              intro j u hj
              rw [Addr.add_lit, Nat.zero_add]
              match j, hj with
              | 0, hj => cases hj; exact BV.cell 0 rfl
              | 1, hj => cases hj; exact BV.cell 1 rfl
            have C2 : ∀ u ∈ [Value.int .i64 tq, .slice (some ⟨gd, 0, none⟩) 3 cap3], u.oneCell' = true := by
              intro u hu; simp at hu; rcases hu with rfl | rfl <;> rfl
            refine wpList_append_mine _ rfl _ _ 23 rfl w.heap.size 27 i0 (.agg #[.int .i64 0, .slice none 0 0]) 2 32 Tryd.underlying23 hi hz0 hz1 hz2 rfl (by decide) _ _ _ rfl hown ⟨w3.heap.size, 0, none⟩ 1 1 [.int .i64 tq, .slice (some ⟨gd, 0, none⟩) 3 cap3] rfl rfl C1 C2 (by decide) (by unfold maxLen; omega) (by omega) (Nat.le_trans hs hsV) ?_
            intro gc cap2 w2 hown' hgrow hgb
            change V.grownBy w2 (Value.slice a' n' c').ownBlock at hgrow
            have hFF := hF.app (v' := .slice (some ⟨gc, 0, none⟩) (n' + 1) cap2) (W := bwld l n') (s := .slice (some ⟨gd, 0, none⟩) 3 cap3) (w1 := wr) hgrow (by rw [hlb, HB.out.2]; exact hown') (by rw [hlb]; omega) (by rw [HB.out.1]; exact hEV) hbV (Nat.le_refl _) hs
            have hbw2 : Below w.heap.size w w2 := (hb.trans (hbV.mono hs)).grown hgrow (Nat.le_trans hs hsV) (fun b hb' => (hown.lt b hb').1)
            clear hown' hgrow hown C1 C2 hgb hbV hEV BV hlb
            go_wp2
            go_roundw
            case rel => exact ⟨n' + 1, i + 4, tq, _, n' + 1, _, _, ⟨by omega, by omega, by rw [HT.out.2, Nat.mul_add], rfl, tq0, by have := btick_bd HN.out (n' + 1); have h2 := HB.out.2; have h3 : btick l (n' + 1) = tq := h2; rw [h3] at this; omega⟩, HB.out.2.symm, rfl, rfl, by go_num, by rw [built_succ]; exact hFF, hbw2⟩
            case measure => simp [intOf]; omega
    · have hd : bnum l = n' := by
        unfold bnum
        have h1 := HL.out
        have h2 := HT.out.2
        have h3 := HI.out
        rw [← h1]
        omega
      have HBN := Lib.hid hd
      clear hd hik hk hin
      by_cases h3 : i + 3 < n
      · have h12 : ¬ n' < 12 := fun h => hgo ⟨h3, h⟩
        have e0 : (i : Int) + 3 < n := by omega
        have e12 : ¬ (n' : Int) < 12 := by omega
        clear hgo
        go_wp2
        go_returns
        exact ⟨_, _, _, rfl, ⟨_, by rw [HBN.out]; exact hF⟩, hb⟩
      · have e0 : ¬ (i : Int) + 3 < n := by omega
        clear hgo
        go_wp2
        go_returns
        exact ⟨_, _, _, rfl, ⟨_, by rw [HBN.out]; exact hF⟩, hb⟩
end Go.Proofs.YtjjodmkblpdnhaaDoor
