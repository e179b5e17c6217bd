/- between, store.bitOf, store.Part, the closure of InterpMoves. -/
import Derived.Test.YtjjodmkblpdnhaaDoorMovePlain
import Derived.Test.YtjjodmkblpdnhaaDoorInterp10
set_option linter.unusedVariables false
set_option linter.unusedSimpArgs false
namespace Go.Proofs.YtjjodmkblpdnhaaDoor
open Go Go.RowKit Go.Sort
set_option maxRecDepth 100000
attribute [local go_sem] opLow opUpon opLow2 opUpon2

theorem btwn_any (n a b : Int) (h : btw n a b) (w : World) : Calls Tryd.prog 25 #[.int .i64 n, .int .i64 a, .int .i64 b] w fun e w' => e = .returned (.bool true) ∧ Below w.heap.size w w' := by
  unfold btw at h
  rcases Int.lt_trichotomy a b with hab | hab | hab
  · have h1 : a ≤ n := by omega
    have h2 : n ≤ b := by omega
    clear h
    go_enter Tryd.func25, Tryd.ntmps25
    go_wp2
    go_returns
    exact ⟨rfl, by go_grown⟩
  · subst hab
    obtain rfl : n = a := by omega
    clear h
    go_enter Tryd.func25, Tryd.ntmps25
    go_wp2
    go_returns
    exact ⟨rfl, by go_grown⟩
  · have h1 : b ≤ n := by omega
    have h2 : n ≤ a := by omega
    have h3 : ¬ a < b := by omega
    clear h
    go_enter Tryd.func25, Tryd.ntmps25
    go_wp2
    go_returns
    exact ⟨rfl, by go_grown⟩
def bitM (k : Int) : Int := ((2 ^ k.toNat : Nat) : Int)
theorem bit_any (k : Int) (hk : 1 ≤ k ∧ k ≤ 10) (w : World) : Calls Tryd.prog 42 #[.int .u8 k] w fun e w' => e = .returned (.int .u32 (bitM k)) ∧ Below w.heap.size w w' := by
  obtain ⟨k, rfl⟩ : ∃ m : Nat, k = m := ⟨k.toNat, by omega⟩
  have hk' : k = 1 ∨ k = 2 ∨ k = 3 ∨ k = 4 ∨ k = 5 ∨ k = 6 ∨ k = 7 ∨ k = 8 ∨ k = 9 ∨ k = 10 := by omega
  clear hk
  rcases hk' with rfl | rfl | rfl | rfl | rfl | rfl | rfl | rfl | rfl | rfl
  all_goals
    go_enter Tryd.func42, Tryd.ntmps42
    go_wp2
    go_returns
    exact ⟨by first | rfl | decide, by go_grown⟩
theorem bit_mask (k : Int) (hk : 1 ≤ k ∧ k ≤ 10) : (bits BinOp.and IntKind.u32 (bitM k) 2044 == 0) = decide (k = 1) := by
  obtain ⟨k, rfl⟩ : ∃ m : Nat, k = m := ⟨k.toNat, by omega⟩
  have hk' : k = 1 ∨ k = 2 ∨ k = 3 ∨ k = 4 ∨ k = 5 ∨ k = 6 ∨ k = 7 ∨ k = 8 ∨ k = 9 ∨ k = 10 := by omega
  clear hk
  rcases hk' with rfl | rfl | rfl | rfl | rfl | rfl | rfl | rfl | rfl | rfl <;> decide +kernel
theorem part_take {cs : List Cmp} {k : Nat} {x : Cmp} (hx : cs[k]? = some x) : partL (cs.take (k + 1)) = if x.k = 1 then partL (cs.take k) else partL (cs.take k) ++ [x] := by
  rw [take_succ hx]
  unfold partL
  rw [List.filter_append]
  by_cases h : x.k = 1
  · rw [if_pos h]; simp [h]
  · rw [if_neg h]; simp [h]
theorem part_len (cs : List Cmp) : (partL cs).length ≤ cs.length := List.length_filter_le _ _
set_option maxHeartbeats 8000000 in
theorem part_any (id : Int) (cs : List Cmp) (a : Option Addr) (n c : Nat) (w : World) (h : CompsAt w (.slice a n c) cs) (hk : ∀ x ∈ cs, 1 ≤ x.k ∧ x.k ≤ 10) :
    Calls Tryd.prog 24 #[.agg #[.int .i64 id, .slice a n c], .int .u32 2044] w fun e w' => ∃ a' n' c', e = .returned (.agg #[.int .i64 id, .slice a' n' c']) ∧ CompsAt w' (.slice a' n' c') (partL cs) ∧ Below w.heap.size w w' := by
  have hl := same_off h
  have HL := Lib.hid hl.1
  have hn2 := hl.2
  have HH := Lib.hid (And.intro h hk)
  obtain ⟨i0, hi, hz0, hz1, hz2⟩ := info_parts infoC
  clear hl h hk
  go_enter Tryd.func24, Tryd.ntmps24
  go_wp2
  refine wp_name (fun V => Bk V (w.heap.size + 1) #[.int .i64 0, .slice none 0 0] 47 ∧ Bk V (w.heap.size + 1 + 1) #[.int .i64 id, .slice none 0 0] 47 ∧ Below w.heap.size w V) ⟨by first | exact (Bk.at_ (by simp)).alloc _ | exact ((Bk.at_ (by simp)).alloc _).alloc _, by first | exact Bk.at_ (by simp) | (exact (Bk.at_ (by simp)).alloc _), by go_grown⟩ ?_
  rintro V0 ⟨B4, B5, hb0⟩
  go_loopw [14] (fun v14 wr => ∃ (k : Nat) (a' : Option Addr) (n' c' : Nat), k ≤ n ∧ v14 = .int .i64 k ∧ Bk wr (w.heap.size + 1) #[.int .i64 0, .slice none 0 0] 47 ∧ Bk wr (w.heap.size + 1 + 1) #[.int .i64 id, .slice a' n' c'] 47 ∧ RowC w.heap.size wr (.slice a' n' c') (partL (cs.take k)) ∧ Below w.heap.size w wr) (fun v14 _ => n - (intOf v14).toNat)
  case atStart => exact ⟨0, none, 0, 0, by omega, rfl, B4, B5, ⟨World.ownsRow_nil _ _ _ _, fun x hx => (by cases hx), by simp [partL]⟩, hb0⟩
  case round =>
    clear B4 B5 hb0
    obtain ⟨k, a', n', c', hkn, rfl, B4, B5, hR, hb⟩ := hrel
    have hs := hb.size
    by_cases hlt : k < n
    · obtain ⟨x, hx⟩ := at_lt (l := cs) (i := k) (by rw [← HL.out]; exact hlt)
      obtain ⟨b, off, rfl, p⟩ := same_at HH.out.1 hx
      obtain ⟨⟨x0, x1, x2, x3, x4⟩, xk⟩ := p
      have kb := HH.out.2 x (List.mem_iff_getElem?.2 ⟨_, hx⟩)
      have HX := Lib.hid (And.intro hx (And.intro kb xk))
      replace x0 := cell_later hb x0
      replace x1 := cell_later hb x1
      replace x2 := cell_later hb x2
      replace x3 := cell_later hb x3
      replace x4 := cell_later hb x4
      clear hx kb xk
      go_wp2_with fail
      refine Calls.mono (bit_any x.k HX.out.2.1 _) ?_
      rintro e W1 ⟨rfl, hb1⟩
      have hd := (Below.refl wr.heap.size wr).alloc (Nat.le_refl _) (.cells #[.int .u8 x.k, .int .i64 x.a, .int .i64 x.b, .int .i64 x.c, .int .i64 x.d] 67)
      have B7 := Bk.below (g := wr.heap.size) (cs := #[.int .u8 x.k, .int .i64 x.a, .int .i64 x.b, .int .i64 x.c, .int .i64 x.d]) (t := 67) (Bk.made wr _ _) hb1
      replace B4 := (B4.below hd).below hb1
      replace B5 := (B5.below hd).below hb1
      replace hR := (hR.below hd).below hb1
      obtain ⟨hb, hs0⟩ := below_c (w := w) hd hb
      obtain ⟨hb, hs⟩ := below_c (w := w) hb1 hb
      clear hd hb1 x0 x1 x2 x3 x4
      have y0 := B7.cell (v := .int .u8 x.k) 0 rfl
      have y1 := B7.cell (v := .int .i64 x.a) 1 rfl
      have y2 := B7.cell (v := .int .i64 x.b) 2 rfl
      have y3 := B7.cell (v := .int .i64 x.c) 3 rfl
      have y4 := B7.cell (v := .int .i64 x.d) 4 rfl
      have z1 := B5.cell (v := .slice a' n' c') 1 rfl
      have g1 := B5.free 1
      have lt5 := B5.lt
      by_cases h1 : x.k = 1
      · have hbit : (bits BinOp.and IntKind.u32 (bitM x.k) 2044 == 0) = true := by rw [bit_mask _ HX.out.2.1]; simpa using h1
        have H1 := Lib.hid h1
        clear h1
        go_wp2_with fail
        go_roundw
        case rel => exact ⟨k + 1, a', n', c', by omega, by go_num, B4, B5, by rw [part_take HX.out.1, if_pos H1.out]; exact hR, hb⟩
        case measure => simp [intOf]; omega
      · have hbit : (bits BinOp.and IntKind.u32 (bitM x.k) 2044 == 0) = false := by rw [bit_mask _ HX.out.2.1]; simpa using h1
        have H1 := Lib.hid h1
        clear h1
        go_wp2_with (at_builtin; refine wpL_name (fun V => Bk V W1.heap.size #[.int .u8 x.k, .int .i64 x.a, .int .i64 x.b, .int .i64 x.c, .int .i64 x.d] 67 ∧ Below W1.heap.size W1 V) ⟨Bk.made _ _ _, (Below.refl _ _).alloc (Nat.le_refl _) _⟩ ?_)
        rintro V ⟨B8, hb8⟩
        obtain ⟨hbV, hsV⟩ := below_c (w := w) hb8 hb
        have C5 := B5.below hb8
        have C4 := B4.below hb8
        have hRV := hR.below hb8
        have hown := hRV.1
        have hpl : (partL (cs.take k)).length ≤ k := Nat.le_trans (part_len _) (by rw [List.length_take]; omega)
        obtain ⟨PL, hPL⟩ : ∃ PL, partL (cs.take k) = PL := ⟨_, rfl⟩
        have HPL := Lib.hid hPL
        rw [hPL] at hown hpl hRV
        clear hPL
        have E1 : ∀ (j : Nat) u, (cv x)[j]? = some u → V.cell? ((⟨W1.heap.size, 0, none⟩ : Addr).add j) = some u := by
          intro j u hj
          rw [Addr.add_lit, Nat.zero_add]
          match j, hj with
          | 0, hj => cases hj; exact B8.cell 0 rfl
          | 1, hj => cases hj; exact B8.cell 1 rfl
          | 2, hj => cases hj; exact B8.cell 2 rfl
          | 3, hj => cases hj; exact B8.cell 3 rfl
          | 4, hj => cases hj; exact B8.cell 4 rfl
          | j + 5, hj => simp [cv] at hj
        have E2 : ∀ u ∈ cv x, u.oneCell' = true := by
          intro u hu
          simp only [cv, List.mem_cons, List.not_mem_nil, or_false] at hu
          rcases hu with rfl | rfl | rfl | rfl | rfl <;> rfl
        refine wpList_append_mine _ rfl _ _ 45 rfl w.heap.size 67 i0 (.agg #[.int .u8 0, .int .i64 0, .int .i64 0, .int .i64 0, .int .i64 0]) 5 40 Tryd.underlying45 hi hz0 hz1 hz2 rfl (by decide) _ _ _ rfl hown ⟨W1.heap.size, 0, none⟩ 1 1 (cv x) rfl rfl E1 E2 (by decide) (by unfold maxLen; omega) (by omega) hsV ?_
        intro gb cap' w1 hown' hgrow hgb
        change V.grownBy w1 (Value.slice a' n' c').ownBlock at hgrow
        have D5 : Bk w1 (w.heap.size + 1 + 1) #[.int .i64 id, .slice a' n' c'] 47 := (hgrow.block _ C5.lt (bk_ne_row C5 (by decide) hown)).trans C5
        have D4 : Bk w1 (w.heap.size + 1) #[.int .i64 0, .slice none 0 0] 47 := (hgrow.block _ C4.lt (bk_ne_row C4 (by decide) hown)).trans C4
        have hR' : RowC w.heap.size w1 (.slice (some ⟨gb, 0, none⟩) (PL.length + 1) cap') (PL ++ [x]) := by
          refine ⟨by rw [List.length_append, List.length_singleton]; unfold cvs at hown' ⊢; rw [List.flatMap_append]; simpa using hown', fun y hy => ?_, by rw [List.length_append, List.length_singleton]; omega⟩
          rcases List.mem_append.1 hy with h1 | h1
          · exact hRV.2.1 y h1
          · simp at h1; subst h1; exact HX.out.2.2
        have hbw : Below w.heap.size w w1 := hbV.grown hgrow hsV (fun b hb' => (hown.lt b hb').1)
        clear hown' hgrow hown hRV hR E1 E2 B8 hb8 C5 C4 B5 B4 hgb B7 y0 y1 y2 y3 y4 z1 g1 lt5 hb hbV
        have z1 := D5.cell (v := .slice a' n' c') 1 rfl
        have g1 := D5.free 1
        have lt5 := D5.lt
        go_wp2_with fail
        go_roundw
        case rel => exact ⟨k + 1, _, _, _, by omega, by go_num, D4.far (p := ⟨w.heap.size + 1 + 1, 1, none⟩) (by simp) _, D5.put 1 _, by rw [part_take HX.out.1, if_neg H1.out, HPL.out]; exact hR'.set (p := ⟨w.heap.size + 1 + 1, 1, none⟩) D5 (by decide) _, hbw.setCell (p := ⟨w.heap.size + 1 + 1, 1, none⟩) (by show w.heap.size ≤ w.heap.size + 1 + 1; omega) _⟩
        case measure => simp [intOf]; omega
    · obtain rfl : n = k := by omega
      have hall : cs.take n = cs := List.take_of_length_le (by rw [← HL.out]; exact Nat.le_refl _)
      rw [hall] at hR
      have hC := hR.comps
      have c0 := B5.cell (v := .int .i64 id) 0 rfl
      have c1 := B5.cell (v := .slice a' n' c') 1 rfl
      have d0 := B4.cell (v := .int .i64 0) 0 rfl
      have d1 := B4.cell (v := .slice none 0 0) 1 rfl
      have f0 := B4.free 0
      have f1 := B4.free 1
      have lt4 := B4.lt
      have lt5 := B5.lt
      go_wp2
      refine post_name (fun V => Bk V (w.heap.size + 1) #[.int .i64 id, .slice a' n' c'] 47 ∧ RowC w.heap.size V (.slice a' n' c') (partL cs) ∧ Below w.heap.size w V) ⟨(B4.put 0 _).put 1 _, (hR.set (p := ⟨w.heap.size + 1, 0, none⟩) B4 (by decide) _).set (p := ⟨w.heap.size + 1, 1, none⟩) (B4.put 0 _) (by decide) _, by go_grown⟩ ?_
      rintro V ⟨BV, hRV, hbV⟩
      clear c0 c1 d0 d1 f0 f1
      have d0 := BV.cell (v := .int .i64 id) 0 rfl
      have d1 := BV.cell (v := .slice a' n' c') 1 rfl
      refine bodyPost_ret (v := .agg #[.int .i64 id, .slice a' n' c']) (by simp [results, Tryd.results24, go_sem, d0, d1]; try rfl) rfl ⟨a', n', c', rfl, hRV.comps, hbV⟩
/-- what the closure shows -/
theorem showc_any (H : List Wld) (n : Int) (g h : Nat) (a : Option Addr) (ln c : Nat) (at_ : Int) (xa : Value) (r : Wld) (w : World) (hn : 0 ≤ n ∧ n ≤ 1000000000) (ht : 0 ≤ at_ ∧ at_ ≤ 1073741824) (hR : RG w) (hH : HistAt w (.slice a ln c) H) (hg : Bk w g #[.slice a ln c] 23) (hh : Bk w h #[.int .i64 at_, xa] 27)
    (hs : shownM H (at_ + n / 16) (n % 16) = .ok r) :
    Calls Tryd.prog 21 #[.int .i64 n, .pointer (some ⟨g, 0, none⟩), .pointer (some ⟨h, 0, none⟩)] w fun e w' => ∃ a' n' c', e = .returned (.tuple #[Wv r.t a' n' c', .int .i64 0]) ∧ EntsAt w' (.slice a' n' c') r.es ∧ Below w.heap.size w w' := by
  obtain ⟨q, hq⟩ : ∃ q, at_ + n / 16 = q := ⟨_, rfl⟩
  obtain ⟨m, hm⟩ : ∃ m, n % 16 = m := ⟨_, rfl⟩
  obtain ⟨d, hd⟩ : ∃ d, n / 16 = d := ⟨_, rfl⟩
  have t1 : Int.tdiv n 16 = d := by rw [Int.tdiv_eq_ediv_of_nonneg hn.1]; exact hd
  have t2 : Int.tmod n 16 = m := by rw [Int.tmod_eq_emod_of_nonneg hn.1]; exact hm
  have hqd : at_ + d = q := by rw [← hd]; exact hq
  rw [hq, hm] at hs
  have HS := Lib.hid hs
  have bd : 0 ≤ q ∧ q ≤ 2147483648 := by omega
  obtain ⟨bd0, bd1⟩ := bd
  obtain ⟨n0, n1⟩ := hn
  have hd2 : 0 ≤ d ∧ d ≤ 1000000000 := by omega
  obtain ⟨bd2, bd3⟩ := hd2
  have c0 := hg.cell (v := .slice a ln c) 0 rfl
  have c1 := hh.cell (v := .int .i64 at_) 0 rfl
  have lt0 := hg.lt
  have lt1 := hh.lt
  clear hq hm hd hs ht
  go_enter Tryd.func21, Tryd.ntmps21
  go_wp2_with fail
  have hd0 := (Below.refl w.heap.size w).alloc (Nat.le_refl _) (.cells #[.int .i64 0, .slice none 0 0] 27)
  refine Calls.mono (shown_any H q m _ _ _ _ (hR.below hd0) (hH.below hd0)) ?_
  rw [HS.out]
  rintro e W1 ⟨⟨a1, l1, k1, rfl, hF⟩, hb⟩
  have BR : Bk W1 w.heap.size #[.int .i64 0, .slice none 0 0] 27 := Bk.below (Bk.at_ rfl) hb
  obtain ⟨hgg, hs1⟩ := below_c (w := w) hb hd0
  have hE := hF.ents
  have r0 := BR.cell (v := .int .i64 0) 0 rfl
  have r1 := BR.cell (v := .slice none 0 0) 1 rfl
  have f0 := BR.free 0
  have f1 := BR.free 1
  have ltr := BR.lt
  have hF2 := (hF.set (p := ⟨w.heap.size, 0, none⟩) BR (by decide) (by decide) (.int .i64 r.t)).set (p := ⟨w.heap.size, 1, none⟩) (BR.put 0 _) (by decide) (by decide) (.slice a1 l1 k1)
  clear hb c0 c1 hE hF
  go_wp2
  refine post_name (fun V => Bk V w.heap.size #[.int .i64 r.t, .slice a1 l1 k1] 27 ∧ EntsAt V (.slice a1 l1 k1) r.es ∧ Below w.heap.size w V) ⟨(BR.put 0 _).put 1 _, hF2.ents, by go_grown⟩ ?_
  rintro V ⟨BV, hEV, hbV⟩
  clear r0 r1 f0 f1
  have y0 := BV.cell (v := .int .i64 r.t) 0 rfl
  have y1 := BV.cell (v := .slice a1 l1 k1) 1 rfl
  exact bodyPost_ret (v := .tuple #[Wv r.t a1 l1 k1, .int .i64 0]) (by simp [results, Tryd.results21, go_sem, y0, y1]; try rfl) rfl ⟨a1, l1, k1, rfl, hEV, hbV⟩
end Go.Proofs.YtjjodmkblpdnhaaDoor
