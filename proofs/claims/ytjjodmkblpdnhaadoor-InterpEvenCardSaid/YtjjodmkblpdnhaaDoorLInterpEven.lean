/- marcheslaw28.InterpEven. -/
import Derived.Test.YtjjodmkblpdnhaaDoorInterp10
import Derived.Test.YtjjodmkblpdnhaaDoorReg3
set_option linter.unusedVariables false
set_option linter.unusedSimpArgs false
namespace Go.Proofs.YtjjodmkblpdnhaaDoor
open Go Go.RowKit Go.Sort
set_option maxRecDepth 100000
attribute [local go_sem] opLow opUpon opLow2 opUpon2 opLow3

theorem row_agree {w w' : World} {base e size n : Nat} {v : Value} {xs : List Value} (h : w.ownsRow base e size v n xs) (ha : ∀ b, base ≤ b → b < w.heap.size → w'.heap[b]? = w.heap[b]?) : w'.ownsRow base e size v n xs := by
  obtain ⟨h1, h2⟩ := h
  refine ⟨h1, ?_⟩
  rcases h2 with h2 | ⟨g, cap, cur, hv, hg, hh, r⟩
  · exact .inl h2
  · exact .inr ⟨g, cap, cur, hv, hg, (ha g hg (Array.getElem?_eq_some_iff.1 hh).1).trans hh, r⟩
theorem Fresh.agree {base : Nat} {w w' : World} {v : Value} {es : List Ent} (h : Fresh base w v es) (ha : ∀ b, base ≤ b → b < w.heap.size → w'.heap[b]? = w.heap[b]?) : Fresh base w' v es := by
  obtain ⟨hl, ss, h1, h2, h3, h4⟩ := h
  exact ⟨hl, ss, h1, row_agree h2 ha, fun i s e hs he => ⟨row_agree (h3 i s e hs he).1 ha, (h3 i s e hs he).2⟩, h4⟩
theorem atW_valid (t x y : Int) (ht : 0 ≤ t ∧ t ≤ 1073741824) (hx : -1048576 ≤ x ∧ x ≤ 1048576) (hy : -1048576 ≤ y ∧ y ≤ 1048576) : Valid (atW t x y) := by
  refine ⟨ht, by simp [atW], fun i hi => by simp [atW] at hi, fun e he => ?_⟩
  simp only [atW, List.mem_cons, List.not_mem_nil, or_false] at he
  subst he
  refine ⟨⟨by simp, by simp⟩, fun i hi => by simp at hi, fun c hc => ?_⟩
  simp only [List.mem_cons, List.not_mem_nil, or_false] at hc
  subst hc
  simp [fits, inLim, lim, tab, Cmp.v, extra, hx, hy]
theorem tmod_bd (x m : Int) (hm : 0 < m) : -m < x.tmod m ∧ x.tmod m < m := ⟨Int.lt_tmod_of_pos x hm, Int.tmod_lt_of_pos x hm⟩
theorem ok_even {p0 p1 p2 p3 k o : Int} (b0 : -1048576 < p0 ∧ p0 < 1048576) (b1 : -1048576 < p1 ∧ p1 < 1048576) (b2 : -1048576 < p2 ∧ p2 < 1048576) (b3 : -1048576 < p3 ∧ p3 < 1048576) (bk : 0 ≤ k ∧ k < o) (bo : 1 ≤ o ∧ o ≤ 65536) : okB (atW 5 p0 p1) (atW 9 p2 p3) k o := by
  refine ⟨atW_valid 5 p0 p1 (by omega) (by omega) (by omega), atW_valid 9 p2 p3 (by omega) (by omega) (by omega), by simp [atW], by omega, by omega⟩
theorem betw_even (p0 p1 p2 p3 k o : Int) (h : k ≠ o) : betw (atW 5 p0 p1) (atW 9 p2 p3) k o = atW (mvI 5 9 k o) (mvI p0 p2 k o) (mvI p1 p3 k o) := by
  unfold betw
  rw [if_neg h]
  rfl
theorem mv_even {p q k o : Int} (bp : -1048576 < p ∧ p < 1048576) (bq : -1048576 < q ∧ q < 1048576) (bk : 0 ≤ k ∧ k < o) (bo : 1 ≤ o ∧ o ≤ 65536) : (min p q ≤ mvI p q k o ∧ mvI p q k o ≤ max p q) ∧ 0 ≤ (q - p) * k - (mvI p q k o - p) * o ∧ (q - p) * k - (mvI p q k o - p) * o < o := by
  have ho : 0 < o := by omega
  obtain ⟨D, hD⟩ : ∃ D, q - p = D := ⟨_, rfl⟩
  obtain ⟨a, ha⟩ : ∃ a, (q - p) * k = a := ⟨_, rfl⟩
  have e : fl a o = a / o := by unfold fl; rw [if_pos ho]
  have h1 := Int.emod_add_mul_ediv a o
  have h2 := Int.emod_nonneg a (show o ≠ 0 by omega)
  have h3 := Int.emod_lt_of_pos a ho
  obtain ⟨t, ht⟩ : ∃ t, a / o = t := ⟨_, rfl⟩
  have hb : min 0 D ≤ t ∧ t ≤ max 0 D := by
    rcases (by omega : D < 0 ∨ 0 ≤ D) with hd | hd
    · have g1 : D * o ≤ a := by rw [← ha, hD]; exact Int.mul_le_mul_of_nonpos_left (by omega) (by omega)
      have g2 : a ≤ 0 * o := by rw [← ha, hD, Int.zero_mul]; exact Int.mul_nonpos_of_nonpos_of_nonneg (by omega) bk.1
      have g3 := Int.le_ediv_of_mul_le ho g1
      have g4 := Int.ediv_le_of_le_mul ho g2
      omega
    · have g1 : a ≤ D * o := by rw [← ha, hD]; exact Int.mul_le_mul_of_nonneg_left (by omega) hd
      have g2 : 0 ≤ a := by rw [← ha, hD]; exact Int.mul_nonneg hd bk.1
      have g3 := Int.ediv_le_of_le_mul ho g1
      have g4 := Int.ediv_nonneg g2 (by omega : 0 ≤ o)
      omega
  have em : mvI p q k o = p + t := by
    unfold mvI
    rw [ha, e, ht, sat_in _ (by omega) (by omega)]
  rw [em, ha, show p + t - p = t by omega]
  rw [ht, Int.mul_comm] at h1
  refine ⟨by omega, by omega, by omega⟩
theorem pos_atW (t x y : Int) : posG (atW t x y) 1 = .tuple #[.agg #[.int .i64 x, .int .i64 y], .bool true] := rfl
theorem wraps {p q k o e : Int} (bp : -1048576 < p ∧ p < 1048576) (bq : -1048576 < q ∧ q < 1048576) (bk : 0 ≤ k ∧ k < o) (bo : 1 ≤ o ∧ o ≤ 65536) (h : (min p q ≤ e ∧ e ≤ max p q) ∧ 0 ≤ (q - p) * k - (e - p) * o ∧ (q - p) * k - (e - p) * o < o) :
    IntKind.i64.wrap (q - p) = q - p ∧ IntKind.i64.wrap ((q - p) * k) = (q - p) * k ∧ IntKind.i64.wrap (e - p) = e - p ∧ IntKind.i64.wrap ((e - p) * o) = (e - p) * o ∧ IntKind.i64.wrap ((q - p) * k - (e - p) * o) = (q - p) * k - (e - p) * o := by
  obtain ⟨h1, h2, h3⟩ := h
  have hA := natAbs_mul_lt (q - p) k 2097152 65536 (by omega) (by omega)
  obtain ⟨A, hA'⟩ : ∃ A, (q - p) * k = A := ⟨_, rfl⟩
  obtain ⟨B, hB'⟩ : ∃ B, (e - p) * o = B := ⟨_, rfl⟩
  rw [hA'] at hA h2 h3 ⊢
  rw [hB'] at h2 h3 ⊢
  refine ⟨?_, ?_, ?_, ?_, ?_⟩ <;> rw [IntKind.wrap_i64] <;> omega
theorem valid_even {p0 p1 p2 p3 k o : Int} (b0 : -1048576 < p0 ∧ p0 < 1048576) (b1 : -1048576 < p1 ∧ p1 < 1048576) (b2 : -1048576 < p2 ∧ p2 < 1048576) (b3 : -1048576 < p3 ∧ p3 < 1048576) (bk : 0 ≤ k ∧ k < o) (bo : 1 ≤ o ∧ o ≤ 65536) : Valid (betw (atW 5 p0 p1) (atW 9 p2 p3) k o) := by
  rw [betw_even _ _ _ _ _ _ (by omega)]
  have h0 := (mv_even b0 b2 bk bo).1
  have h1 := (mv_even b1 b3 bk bo).1
  have ht := (mv_even (p := 5) (q := 9) (by omega) (by omega) bk bo).1
  exact atW_valid _ _ _ (by omega) (by omega) (by omega)
def aAt3 : Array Value → Value → World → World → Prop := fun args v w1 w2 => ∃ (t x y : Int) (a : Option Addr) (n c : Nat), args = #[.int .i64 t, .int .i64 x, .int .i64 y] ∧ v = Wv t a n c ∧ Fresh w1.heap.size w2 (.slice a n c) (atW t x y).es ∧ Below w1.heap.size w1 w2
def aBetw3 (S : Wld) : Array Value → Value → World → World → Prop := fun _ v w1 w2 => ∃ a n c, v = .tuple #[Wv S.t a n c, .int .i64 0] ∧ Fresh w1.heap.size w2 (.slice a n c) S.es ∧ Below w1.heap.size w1 w2
def tEven (S : Wld) : Posts := fun g => if g = 12 then some aAt3 else if g = 17 then some (aBetw3 S) else none
set_option maxHeartbeats 8000000 in
theorem even_any (x0 x1 y0 y1 n d : Int) (hx0 : -2147483648 ≤ x0 ∧ x0 ≤ 2147483647) (hx1 : -2147483648 ≤ x1 ∧ x1 ≤ 2147483647) (hy0 : -2147483648 ≤ y0 ∧ y0 ≤ 2147483647) (hy1 : -2147483648 ≤ y1 ∧ y1 ≤ 2147483647) (hn : 0 ≤ n ∧ n ≤ 65535) (hd : 0 ≤ d ∧ d ≤ 65535) (w : World) (hR : RG w) :
    Calls Tryd.prog 6 #[.agg #[.int .i32 x0, .int .i32 x1], .agg #[.int .i32 y0, .int .i32 y1], .int .u16 n, .int .u16 d] w fun e w' => e = .returned (.bool true) ∧ Below w.heap.size w w' := by
  obtain ⟨p0, hp0⟩ : ∃ z, x0.tmod 1048576 = z := ⟨_, rfl⟩
  obtain ⟨p1, hp1⟩ : ∃ z, x1.tmod 1048576 = z := ⟨_, rfl⟩
  obtain ⟨p2, hp2⟩ : ∃ z, y0.tmod 1048576 = z := ⟨_, rfl⟩
  obtain ⟨p3, hp3⟩ : ∃ z, y1.tmod 1048576 = z := ⟨_, rfl⟩
  obtain ⟨k, hk⟩ : ∃ z, n.tmod (d + 1) = z := ⟨_, rfl⟩
  go_enter Tryd.func6, Tryd.ntmps6
  go_wp2
  refine wp_name (fun V => Bk V (w.heap.size + 1 + 1) #[.int .i64 p0, .int .i64 p1, .int .i64 p2, .int .i64 p3] 52 ∧ Below w.heap.size w V) ⟨by subst hp0 hp1 hp2 hp3; exact Bk.at_ (by simp), by go_grown⟩ ?_
  rintro V ⟨B, hb⟩
  have hS := hb.size
  have b0 : -1048576 < p0 ∧ p0 < 1048576 := by rw [← hp0]; exact tmod_bd x0 1048576 (by decide)
  have b1 : -1048576 < p1 ∧ p1 < 1048576 := by rw [← hp1]; exact tmod_bd x1 1048576 (by decide)
  have b2 : -1048576 < p2 ∧ p2 < 1048576 := by rw [← hp2]; exact tmod_bd y0 1048576 (by decide)
  have b3 : -1048576 < p3 ∧ p3 < 1048576 := by rw [← hp3]; exact tmod_bd y1 1048576 (by decide)
  obtain ⟨o, ho⟩ : ∃ z, d + 1 = z := ⟨_, rfl⟩
  rw [ho] at hk
  have bk : 0 ≤ k ∧ k < o := by rw [← hk]; exact ⟨Int.tmod_nonneg _ hn.1, Int.tmod_lt_of_pos _ (by omega)⟩
  have bo : 1 ≤ o ∧ o ≤ 65536 := by omega
  clear hp0 hp1 hp2 hp3 hx0 hx1 hy0 hy1
  rw [ho]
  obtain ⟨S, hS'⟩ : ∃ S, betw (atW 5 p0 p1) (atW 9 p2 p3) k o = S := ⟨_, rfl⟩
  have HSS := Lib.hid (And.intro hS' (show okB (atW 5 p0 p1) (atW 9 p2 p3) k o from ok_even b0 b1 b2 b3 bk bo))
  have HB := Lib.hid (And.intro b0 (And.intro b1 (And.intro b2 (And.intro b3 (And.intro bk bo)))))
  clear hn hd hk ho hS' b0 b1 b2 b3 bk bo
  have hbase : ∀ p : Mutd (fun _ : Nat => False) V, Below V.heap.size V p.w := fun p => p.h.below (Nat.le_refl _) (fun _ _ h => h)
  have c0 := fun p : Mutd (fun _ : Nat => False) V => cell_mutd (B.cell (v := .int .i64 p0) 0 rfl) (fun e => e) p
  have c1 := fun p : Mutd (fun _ : Nat => False) V => cell_mutd (B.cell (v := .int .i64 p1) 1 rfl) (fun e => e) p
  have c2 := fun p : Mutd (fun _ : Nat => False) V => cell_mutd (B.cell (v := .int .i64 p2) 2 rfl) (fun e => e) p
  have c3 := fun p : Mutd (fun _ : Nat => False) V => cell_mutd (B.cell (v := .int .i64 p3) 3 rfl) (fun e => e) p
  refine wp_region_low3 (tEven S) (fun _ : Nat => False) [4, 9, 12] (sto1 16 17) 18 (by kernel_rfl) (fun b hb => hb.elim) (sto1_inj 16 17) (by kernel_rfl) ?_
  simp only [List.take, List.drop]
  iterate 4 (refine low3_step (sto1_no (by decide)) (fun K hK => ?_); go_simp; first | (refine hK _ ?_; clear hK K) | (apply Exists.intro; refine ⟨fun p => ?_, hK _ ?_⟩; clear hK K))
  refine low3_call 12 #[.int .i64 5, .int .i64 p0, .int .i64 p1] aAt3 (sto1_no (by decide)) (by decide) (by rfl) (fun w => by go_simp) (if_pos rfl) (fun X hX => ?_) ?_
  · refine (at_any 5 p0 p1 X).mono ?_
    rintro e X' ⟨u1, u2, u3, rfl, h1, h2⟩
    exact ⟨_, rfl, ⟨_, _, _, u1, u2, u3, rfl, rfl, h1, h2⟩, Mut.of_below h2⟩
  rintro v V1 V2 hV1 ⟨t', x', y', a1, n1, m1, hargs, rfl, hF1, hbe1⟩ hm1
  cases hargs
  iterate 4 (refine low3_step (sto1_no (by decide)) (fun K hK => ?_); go_simp; first | (refine hK _ ?_; clear hK K) | (apply Exists.intro; refine ⟨fun p => ?_, hK _ ?_⟩; clear hK K))
  refine low3_call 12 #[.int .i64 9, .int .i64 p2, .int .i64 p3] aAt3 (sto1_no (by decide)) (by decide) (by rfl) (fun w => by go_simp) (if_pos rfl) (fun X hX => ?_) ?_
  · refine (at_any 9 p2 p3 X).mono ?_
    rintro e X' ⟨u1, u2, u3, rfl, h1, h2⟩
    exact ⟨_, rfl, ⟨_, _, _, u1, u2, u3, rfl, rfl, h1, h2⟩, Mut.of_below h2⟩
  rintro v V3 V4 hV3 ⟨t', x', y', a2, n2, m2, hargs, rfl, hF2, hbe2⟩ hm2
  cases hargs
  iterate 2 (refine low3_step (sto1_no (by decide)) (fun K hK => ?_); go_simp; first | (refine hK _ ?_; clear hK K) | (apply Exists.intro; refine ⟨fun p => ?_, hK _ ?_⟩; clear hK K))
  refine low3_call 17 #[Wv 5 a1 n1 m1, Wv 9 a2 n2 m2, .int .i64 k, .int .i64 o] (aBetw3 S) (sto1_no (by decide)) (by decide) (by rfl) (fun w => by go_simp; try rfl) (by unfold tEven; rw [if_neg (by decide), if_pos rfl]) (fun X hX => ?_) ?_
  · have g1 : Fresh V1.heap.size X (.slice a1 n1 m1) (atW 5 p0 p1).es := hF1.agree (fun b h1 h2 => by
      have e3 := (hV3.2.2 (by decide)).1 b (.inr (.inr ⟨h1, h2⟩))
      have l3 : b < V3.heap.size := (Array.getElem?_eq_some_iff.1 (e3.trans (Array.getElem?_eq_getElem h2))).1
      exact ((hX.2.2 (by decide)).1 b (.inr (.inl (.inr ⟨h1, h2⟩)))).trans ((hbe2.block b l3).trans e3))
    have g2 : Fresh V3.heap.size X (.slice a2 n2 m2) (atW 9 p2 p3).es := hF2.agree (fun b h1 h2 => (hX.2.2 (by decide)).1 b (.inr (.inr ⟨h1, h2⟩)))
    refine (between_ok (atW 5 p0 p1) (atW 9 p2 p3) k o a1 a2 n1 m1 n2 m2 X ((hR.below hb).below (hbase ⟨X, hX.1⟩)) g1.ents g2.ents HSS.out.2).mono ?_
    rintro e X' ⟨u1, u2, u3, rfl, h1, h2⟩
    rw [HSS.out.1] at h1 ⊢
    exact ⟨_, rfl, ⟨u1, u2, u3, rfl, h1, h2⟩, Mut.of_below h2⟩
  rintro v V5 V6 hV5 ⟨a3, n3, m3, rfl, hF3, hbe3⟩ hm3
  iterate 3 (refine low3_step (sto1_no (by decide)) (fun K hK => ?_); go_simp; first | (refine hK _ ?_; clear hK K) | (apply Exists.intro; refine ⟨fun p => ?_, hK _ ?_⟩; clear hK K))
  refine low3_new (.cells #[.int .i64 0, .slice none 0 0] 27) (sto1_no (by decide)) (by rfl) (fun w => by go_simp) ?_
  intro g
  refine low3_sto 16 g #[.int .i64 0, .slice none 0 0] #[.int .i64 S.t, .slice a3 n3 m3] 27 rfl (by rfl) ⟨⟨16, .data⟩, by simp, rfl, rfl⟩ rfl (fun w B => by
    have lt := B.lt
    have c_0 := B.cell (v := .int .i64 0) 0 rfl
    have c_1 := B.cell (v := .slice none 0 0) 1 rfl
    have f_0 := B.free 0
    have f_1 := B.free 1
    go_simp
    show (w.setCell ⟨g, 0, none⟩ (.int .i64 S.t)).setCell ⟨g, 1, none⟩ (.slice a3 n3 m3) = putObj w g (.cells #[.int .i64 S.t, .slice a3 n3 m3] 27)
    rw [setCell_put B, setCell_put (putObj_heap B), putObj_twice]; rfl) ?_
  refine low3_nil ?_
  intro W1 hC
  have BG : Bk W1 g #[.int .i64 S.t, .slice a3 n3 m3] 27 := (hC.made 16 g _ rfl).2
  have hF : Fresh V5.heap.size W1 (.slice a3 n3 m3) S.es := hF3.agree (fun b h1 h2 => hC.phi b (.inr (.inr ⟨h1, h2⟩)))
  have hfr := hC.fr.below (Nat.le_refl _) (fun _ _ e => e)
  have hES := hF.ents
  have BP := B.mut hC.fr (fun e => e)
  obtain ⟨hb, hS⟩ := below_c (w := w) hfr hb
  clear hC hF hfr hm1 hm2 hm3 hV1 hV3 hV5 hF1 hF2 hF3 hbe1 hbe2 hbe3 hbase c0 c1 c2 c3 B
  have hval : Valid S := by rw [← HSS.out.1]; exact valid_even HB.out.1 HB.out.2.1 HB.out.2.2.1 HB.out.2.2.2.1 HB.out.2.2.2.2.1 HB.out.2.2.2.2.2
  have m0 := mv_even HB.out.1 HB.out.2.2.1 HB.out.2.2.2.2.1 HB.out.2.2.2.2.2
  have m1' := mv_even HB.out.2.1 HB.out.2.2.2.1 HB.out.2.2.2.2.1 HB.out.2.2.2.2.2
  have hpos : posG S 1 = .tuple #[.agg #[.int .i64 (mvI p0 p2 k o), .int .i64 (mvI p1 p3 k o)], .bool true] := by rw [← HSS.out.1, betw_even _ _ _ _ _ _ (by have := HB.out.2.2.2.2.1; omega)]; exact pos_atW _ _ _
  obtain ⟨e0, he0⟩ : ∃ z, mvI p0 p2 k o = z := ⟨_, rfl⟩
  obtain ⟨e1, he1⟩ : ∃ z, mvI p1 p3 k o = z := ⟨_, rfl⟩
  rw [he0] at m0 hpos
  rw [he1] at m1' hpos
  have w0 := wraps HB.out.1 HB.out.2.2.1 HB.out.2.2.2.2.1 HB.out.2.2.2.2.2 m0
  have w1 := wraps HB.out.2.1 HB.out.2.2.2.1 HB.out.2.2.2.2.1 HB.out.2.2.2.2.2 m1'
  obtain ⟨v1, v2, v3, v4, v5⟩ := w0
  obtain ⟨u1, u2, u3, u4, u5⟩ := w1
  obtain ⟨-, ⟨z2, z3⟩⟩ := m0
  obtain ⟨-, ⟨z4, z5⟩⟩ := m1'
  clear he0 he1
  have s0 := BG.cell (v := .int .i64 S.t) 0 rfl
  have s1 := BG.cell (v := .slice a3 n3 m3) 1 rfl
  go_wp2_with fail
  refine Calls.mono (pos_any S a3 n3 m3 1 _ (hR.below hb) hES hval) ?_
  rw [hpos]
  rintro e W2 ⟨rfl, hb2⟩
  replace BP := BP.below hb2
  obtain ⟨hb, hS⟩ := below_c (w := w) hb2 hb
  clear hES hval BG s0 s1 hb2 hpos
  have k0 := BP.cell (v := .int .i64 p0) 0 rfl
  have k1 := BP.cell (v := .int .i64 p1) 1 rfl
  have k2 := BP.cell (v := .int .i64 p2) 2 rfl
  have k3 := BP.cell (v := .int .i64 p3) 3 rfl
  obtain ⟨X0, hX0⟩ : ∃ z, (p2 - p0) * k - (e0 - p0) * o = z := ⟨_, rfl⟩
  obtain ⟨X1, hX1⟩ : ∃ z, (p3 - p1) * k - (e1 - p1) * o = z := ⟨_, rfl⟩
  rw [hX0] at z2 z3
  rw [hX1] at z4 z5
  replace v5 : IntKind.i64.wrap ((p2 - p0) * k - (e0 - p0) * o) = X0 := v5.trans hX0
  replace u5 : IntKind.i64.wrap ((p3 - p1) * k - (e1 - p1) * o) = X1 := u5.trans hX1
  clear hX0 hX1
  go_wp2
  refine wp_name (fun V => Bk V (w.heap.size + 1 + 1) #[.int .i64 p0, .int .i64 p1, .int .i64 p2, .int .i64 p3] 52 ∧ Bk V (W2.heap.size + 1) #[.int .i64 e0, .int .i64 e1] 3 ∧ Below w.heap.size w V) ⟨(BP.alloc _).alloc _, Bk.at_ (by simp), by go_grown⟩ ?_
  clear BP hb hS k0 k1 k2 k3
  rintro W3 ⟨BP, BL, hb⟩
  have k0 := BP.cell (v := .int .i64 p0) 0 rfl
  have k1 := BP.cell (v := .int .i64 p1) 1 rfl
  have k2 := BP.cell (v := .int .i64 p2) 2 rfl
  have k3 := BP.cell (v := .int .i64 p3) 3 rfl
  have l0 := BL.cell (v := .int .i64 e0) 0 rfl
  have l1 := BL.cell (v := .int .i64 e1) 1 rfl
  have wc2 : IntKind.i64.wrap 2 = 2 := by decide
  have wc3 : IntKind.i64.wrap 3 = 3 := by decide
  refine wp_loop_rounds 3 ?_
  rw [rounds_succ]
  go_wp2
  have kk0 := cell_regrown k0
  have kk1 := cell_regrown k1
  have kk2 := cell_regrown k2
  have kk3 := cell_regrown k3
  refine wp_region_low 17 (by kernel_rfl) (by kernel_rfl) ?_
  simp only [List.take, List.drop]
  iterate 17 (refine low_step (fun K hK => ?_); go_simp; first | (refine hK _ ?_; clear hK K) | (apply Exists.intro; refine ⟨fun p => ?_, hK _ ?_⟩; clear hK K))
  refine low_nil ?_
  intro W4 hC
  have hb3 := hC.1
  replace BP := BP.below hb3
  replace BL := BL.below hb3
  obtain ⟨hb, hS⟩ := below_c (w := w) hb3 hb
  clear hC hb3 kk0 kk1 kk2 kk3 k0 k1 k2 k3 l0 l1
  have k0 := BP.cell (v := .int .i64 p0) 0 rfl
  have k1 := BP.cell (v := .int .i64 p1) 1 rfl
  have k2 := BP.cell (v := .int .i64 p2) 2 rfl
  have k3 := BP.cell (v := .int .i64 p3) 3 rfl
  have l0 := BL.cell (v := .int .i64 e0) 0 rfl
  have l1 := BL.cell (v := .int .i64 e1) 1 rfl
  go_wp2
  rw [rounds_succ]
  go_wp2
  have kk0 := cell_regrown k0
  have kk1 := cell_regrown k1
  have kk2 := cell_regrown k2
  have kk3 := cell_regrown k3
  refine wp_region_low 17 (by kernel_rfl) (by kernel_rfl) ?_
  simp only [List.take, List.drop]
  iterate 17 (refine low_step (fun K hK => ?_); go_simp; first | (refine hK _ ?_; clear hK K) | (apply Exists.intro; refine ⟨fun p => ?_, hK _ ?_⟩; clear hK K))
  refine low_nil ?_
  intro W5 hC
  have hb3 := hC.1
  replace BP := BP.below hb3
  replace BL := BL.below hb3
  obtain ⟨hb, hS⟩ := below_c (w := w) hb3 hb
  clear hC hb3 kk0 kk1 kk2 kk3 k0 k1 k2 k3 l0 l1
  have k0 := BP.cell (v := .int .i64 p0) 0 rfl
  have k1 := BP.cell (v := .int .i64 p1) 1 rfl
  have k2 := BP.cell (v := .int .i64 p2) 2 rfl
  have k3 := BP.cell (v := .int .i64 p3) 3 rfl
  have l0 := BL.cell (v := .int .i64 e0) 0 rfl
  have l1 := BL.cell (v := .int .i64 e1) 1 rfl
  go_wp2
  rw [rounds_succ]
  go_wp2_with fail
  refine Calls.mono (awake_any _ (hR.below hb)) ?_
  rintro e W6 ⟨rfl, hb6⟩
  obtain ⟨hb, hS⟩ := below_c (w := w) hb6 hb
  go_wp2
  go_returns
  exact ⟨rfl, hb⟩
end Go.Proofs.YtjjodmkblpdnhaaDoor
