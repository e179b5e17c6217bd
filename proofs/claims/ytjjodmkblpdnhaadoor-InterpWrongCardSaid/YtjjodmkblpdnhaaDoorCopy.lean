/- marcheslaw15.Copy, marcheslaw28.copied. -/
import Derived.Test.YtjjodmkblpdnhaaDoorRegA
import Derived.Test.YtjjodmkblpdnhaaDoorInterp11
import Derived.Test.YtjjodmkblpdnhaaDoorInterp6
set_option linter.unusedVariables false
set_option linter.unusedSimpArgs false
namespace Go.Proofs.YtjjodmkblpdnhaaDoor
open Go Go.RowKit Go.Sort
set_option maxRecDepth 100000
attribute [local go_sem] RegA.opLow2 RegA.opUpon2

/-- what the append leaves, in a region that began in w0 -/
def aApp (w0 : World) (cs : List Cmp) : Array Value → Value → World → World → Prop := fun _ v w1 w2 => w0.heap.size ≤ w1.heap.size ∧ RowC w1.heap.size w2 v cs
theorem app_run {a : Act} {o : Oper} {s x : Operand} (hop : o.op = Op.call { callee := Callee.builtin Builtin.append, args := #[s, x], argTypes := #[45, 45] }) {g b off m c : Nat} {cs : List Cmp} {w : World} (hs : a.eval s = .slice (some ⟨g, 0, none⟩) 0 0) (hx : a.eval x = .slice (some ⟨b, off, none⟩) m c) (hm : m = cs.length) (h0 : 0 < m) (hC : CompsAt w (.slice (some ⟨b, off, none⟩) m c) cs) :
    ∃ v w', (execOp a.eval o).run Tryd.prog w = .ok (.value v) w' ∧ w.heap.size < w'.heap.size ∧ RowC w.heap.size w' v cs ∧ Below w.heap.size w w' := by
  obtain ⟨i0, hi, hz0, hz1, hz2⟩ := info_parts infoC
  have hk := hC.kinds
  subst hm
  obtain ⟨v', w', hrun, r1, r2⟩ := run_append_arg_grows (P := Tryd.prog) w 45 o.type 67 i0 (.agg #[.int .u8 0, .int .i64 0, .int .i64 0, .int .i64 0, .int .i64 0]) 5 40 Tryd.underlying45 hi hz0 hz1 hz2 rfl (by decide) ⟨g, 0, none⟩ 0 0 [] rfl (fun j u hj => by simp at hj) ⟨b, off, none⟩ cs.length c (cvs cs) (cvs_len cs) hC.cell (by omega) (by unfold maxLen; have := hk.2; omega) (by have := hk.2; omega)
  have hrow : RowC w.heap.size w' v' cs := ⟨by simpa using r1, hk⟩
  refine ⟨v', w', by simp [execOp, hop, resolve, invoke, builtin, hs, hx, hrun, Result.andThen], ?_, hrow, (Below.refl _ _).grown r2 (Nat.le_refl _) (by intro k hk; cases hk)⟩
  rcases r1.2 with ⟨-, h2⟩ | ⟨gg, cap, cur, hv, hg, hh, -⟩
  · omega
  · exact Nat.lt_of_le_of_lt hg (Array.getElem?_eq_some_iff.1 hh).1
theorem empty_run {a : Act} {o : Oper} {s x : Operand} (hop : o.op = Op.call { callee := Callee.builtin Builtin.append, args := #[s, x], argTypes := #[45, 45] }) {g : Nat} {xa : Option Addr} {c : Nat} {w : World} (hs : a.eval s = .slice (some ⟨g, 0, none⟩) 0 0) (hx : a.eval x = .slice xa 0 c) :
    (execOp a.eval o).run Tryd.prog w = .ok (.value (.slice (some ⟨g, 0, none⟩) 0 0)) w := by
  have h1 : (Builtin.append_ #[45, 45] o.type #[.slice (some ⟨g, 0, none⟩) 0 0, .slice xa 0 c]).run Tryd.prog w = .ok (.slice (some ⟨g, 0, none⟩) 0 0) w := by
    unfold Builtin.append_
    go_simp
    cases xa <;> simp [storeCells, go_sem, Result.andThen]
  simp [execOp, hop, resolve, invoke, builtin, hs, hx, h1, Result.andThen]
theorem ownsRow_full' {w : World} {base g : Nat} (h : Bk w g #[] 67) (hg : base ≤ g) : w.ownsRow base 67 5 (.slice (some ⟨g, 0, none⟩) 0 0) 0 (cvs []) := ownsRow_full (n := 0) h hg rfl (by decide)
def postA (A : Array Value → Value → World → World → Prop) : Posts := fun h => if h = RegA.appF then some A else none
set_option maxHeartbeats 4000000 in
theorem copy_any (W : Wld) (a : Option Addr) (n c : Nat) (w : World) (h : EntsAt w (.slice a n c) W.es) :
    Calls Tryd.prog 35 #[Wv W.t a n c] w fun e w' => ∃ a' n' c', e = .returned (Wv W.t a' n' c') ∧ Fresh w.heap.size w' (.slice a' n' c') W.es ∧ Below w.heap.size w w' := by
  obtain ⟨t, es⟩ := W
  simp only at h
  have hlen := h.len
  have HL := Lib.hid hlen
  have hn : n < 1099511627776 := by
    rcases h with ⟨_, rfl⟩ | ⟨b, off, cap, _, hl, _⟩
    · rw [hlen]; simp
    · rw [hlen]; exact hl
  obtain ⟨i0, hi, hz0, hz1, hz2⟩ := info_parts infoE
  have HH := Lib.hid h
  clear hlen h
  go_enter Tryd.func35, Tryd.ntmps35
  go_wp2
  go_loopw [12] (fun v12 wr => ∃ (k : Nat) (a' : Option Addr) (n' c' : Nat), k ≤ n ∧ v12 = .int .i64 k ∧ Bk wr (w.heap.size + 1) #[.int .i64 0, .slice none 0 0] 27 ∧ Bk wr (w.heap.size + 1 + 1) #[.int .i64 t, .slice a' n' c'] 27 ∧ Fresh w.heap.size wr (.slice a' n' c') (es.take k) ∧ Below w.heap.size w wr) (fun v12 _ => n - (intOf v12).toNat)
  case atStart => exact ⟨0, none, 0, 0, by omega, rfl, ((Bk.at_ (by simp)).alloc _), Bk.at_ (by simp), Fresh.nil _ _, by go_grown⟩
  case round =>
    obtain ⟨k, a', n', c', hk, rfl, B1, B2, hF, hb⟩ := hrel
    have hs := hb.size
    have lt1 := B1.lt
    have lt2 := B2.lt
    by_cases hlt : k < n
    · obtain ⟨x, hx⟩ := at_lt (l := es) (i := k) (by rw [← HL.out]; exact hlt)
      rcases HH.out with ⟨h, hnil⟩ | ⟨b, off, cap, h, hl, hc⟩
      · rw [hnil] at hx; cases hx
      · injection h with h1 h2 h3
        subst h1 h3
        obtain ⟨x0, xa, xn, xc, x1, xh⟩ := hc k x hx
        have HX := Lib.hid hx
        replace x0 := cell_later hb x0
        replace x1 := cell_later hb x1
        replace xh := xh.below hb
        clear hx h2 hc hl
        go_wp2
        refine wp_name (fun W1 => Bk W1 wr.heap.size #[.int .i64 x.id, .slice xa xn xc] 47 ∧ Bk W1 (w.heap.size + 1) #[.int .i64 0, .slice none 0 0] 27 ∧ Bk W1 (w.heap.size + 1 + 1) #[.int .i64 t, .slice a' n' c'] 27 ∧ Fresh w.heap.size W1 (.slice a' n' c') (es.take k) ∧ CompsAt W1 (.slice xa xn xc) x.cs ∧ Below w.heap.size w W1) ⟨Bk.made _ _ _, B1.alloc _, B2.alloc _, hF.below ((Below.refl _ _).alloc (Nat.le_refl _) _), xh.below ((Below.refl _ _).alloc (Nat.le_refl _) _), hb.alloc hs _⟩ ?_
        rintro W1 ⟨Be, B1', B2', hF', xh', hb1⟩
        clear B1 B2 hF xh hb hs lt1 lt2 x0 x1
        have k0 := cell_regrown (B2'.cell (v := .int .i64 t) 0 rfl)
        have k1 := cell_regrown (B2'.cell (v := .slice a' n' c') 1 rfl)
        have k2 := cell_regrown (Be.cell (v := .int .i64 x.id) 0 rfl)
        have k3 := cell_regrown (Be.cell (v := .slice xa xn xc) 1 rfl)
        refine RegA.wp_region_low2 (postA (aApp W1 x.cs)) 10 (by kernel_rfl) (by kernel_rfl) ?_
        simp only [List.take, List.drop]
        iterate 4 (refine RegA.low2_step (fun K hK => ?_); go_simp; first | (refine hK _ ?_; clear hK K) | (apply Exists.intro; refine ⟨fun p => ?_, hK _ ?_⟩; clear hK K))
        refine RegA.low2_slice 0 0 (.cells #[] 67) (by rfl) (fun w => by go_simp; try rfl) ?_
        intro g4
        iterate 2 (refine RegA.low2_step (fun K hK => ?_); go_simp; first | (refine hK _ ?_; clear hK K) | (apply Exists.intro; refine ⟨fun p => ?_, hK _ ?_⟩; clear hK K))
        rcases Nat.eq_zero_or_pos xn with hz | hpos
        · have hcs : x.cs = [] := by have := xh'.len; exact List.eq_nil_of_length_eq_zero (by omega)
          refine RegA.low2_val (.slice (some ⟨g4, 0, none⟩) 0 0) (by rfl) (fun w _ _ => empty_run rfl (g := g4) rfl (by rw [hz]; rfl)) ?_
          iterate 1 (refine RegA.low2_step (fun K hK => ?_); go_simp; first | (refine hK _ ?_; clear hK K) | (apply Exists.intro; refine ⟨fun p => ?_, hK _ ?_⟩; clear hK K))
          refine RegA.low2_slice 1 1 (.cells #[.int .i64 x.id, .slice (some ⟨g4, 0, none⟩) 0 0] 47) (by rfl) (fun w => by go_simp; try rfl) ?_
          intro g8
          refine RegA.low2_nil ?_
          intro W2 hC
          have hb2 := hC.1
          obtain ⟨z8, B8⟩ : _ ∧ Bk W2 g8 #[.int .i64 x.id, .slice (some ⟨g4, 0, none⟩) 0 0] 47 := hC.made 9 _ rfl
          obtain ⟨z4, B4⟩ : _ ∧ Bk W2 g4 #[] 67 := hC.made 4 _ rfl
          have hRow : RowC W1.heap.size W2 (.slice (some ⟨g4, 0, none⟩) 0 0) x.cs := by rw [hcs]; exact ⟨ownsRow_full' B4 z4, fun y hy => (by cases hy), by simp⟩
          have hu1 : True := trivial
          have hu2 : True := trivial
          have hA : True := trivial
          have C1 := B1'.below hb2
          have C2 := B2'.below hb2
          obtain ⟨hkl, ss, h1, h2, h3, h4⟩ := hF'
          have h2' := row_below h2 hb2
          have hkk : (es.take k).length = k := by rw [List.length_take, ← HL.out]; omega
          have hS1 := hb1.size
          have hS2 := hb2.size
          refine wpList_append_mine _ rfl _ _ 25 rfl w.heap.size 47 i0 (.agg #[.int .i64 0, .slice none 0 0]) 2 32 Tryd.underlying25 hi hz0 hz1 hz2 rfl (by decide) _ _ _ rfl h2' ⟨g8, 0, none⟩ 1 1 [.int .i64 x.id, .slice (some ⟨g4, 0, none⟩) 0 0] rfl rfl ?c1 ?c2 (by decide) ?c4 ?c5 (by omega) ?_
          case c1 =>
            intro j u hj
            match j, hj with
            | 0, hj => simp at hj; subst hj; exact B8.cell 0 rfl
            | 1, hj => simp at hj; subst hj; simp [Addr.add]; exact B8.cell 1 rfl
          case c2 => intro u hu; simp at hu; rcases hu with rfl | rfl <;> rfl
          case c4 => rw [hkk]; unfold maxLen; omega
          case c5 => rw [hkk]; omega
          intro gb cap' w1 hown' hgrow hgb
          change W2.grownBy w1 (Value.slice a' n' c').ownBlock at hgrow
          have D1 : Bk w1 (w.heap.size + 1) #[.int .i64 0, .slice none 0 0] 27 := (hgrow.block _ C1.lt (bk_ne_row C1 (by decide) h2')).trans C1
          have D2 : Bk w1 (w.heap.size + 1 + 1) #[.int .i64 t, .slice a' n' c'] 27 := (hgrow.block _ C2.lt (bk_ne_row C2 (by decide) h2')).trans C2
          have hRow' := hRow.grown hgrow h2' (by decide)
          have hFr : Fresh w.heap.size w1 (.slice (some ⟨gb, 0, none⟩) ((es.take k).length + 1) cap') (es.take k ++ [x]) :=
            Fresh.push (w := W1) ⟨ss, h1, h3, h4, hown'⟩ (by rw [hkk]; omega) hRow' hS1 (fun b hb' ⟨cs, hcs⟩ => (hgrow.block b (Nat.lt_of_lt_of_le hb' hS2) (cells_ne_row (hcs.symm ▸ hb2.block b hb') (by decide) h2')).trans (hb2.block b hb'))
          have hbw : Below w.heap.size w w1 := (hb1.trans (hb2.mono hS1)).grown hgrow (Nat.le_trans hS1 hS2) (fun b hb' => (h2'.lt b hb').1)
          rw [hkk] at hFr ⊢
          clear hown' hgrow hRow hRow' h1 h2 h2' h3 h4 hA hu1 hu2 hC B8 z8 C1 C2 B1' B2' Be xh' hb1 hb2 hkl hS1 hS2 hgb k0 k1 k2 k3
          have d1 := D2.cell (v := .slice a' n' c') 1 rfl
          have e1 := D2.free 1
          have lt2 := D2.lt
          go_wp2
          go_roundw
          case rel => exact ⟨k + 1, _, _, _, by omega, by go_num, D1.far (p := ⟨w.heap.size + 1 + 1, 1, none⟩) (by simp) _, D2.put 1 _, by rw [take_succ HX.out]; exact hFr.set (p := ⟨w.heap.size + 1 + 1, 1, none⟩) D2 (by decide) (by decide) _, hbw.setCell (p := ⟨w.heap.size + 1 + 1, 1, none⟩) (by show w.heap.size ≤ w.heap.size + 1 + 1; omega) _⟩
          case measure => simp [intOf]; omega
        · obtain ⟨bx, ox, hxa⟩ : ∃ bx ox, xa = some ⟨bx, ox, none⟩ := by
            rcases xh' with ⟨h1, -⟩ | ⟨bx, ox, cx, h1, -⟩
            · cases h1; omega
            · injection h1 with h1; exact ⟨bx, ox, h1⟩
          subst hxa
          have hlx := xh'.len
          refine RegA.low2_append (aApp W1 x.cs) (by rfl) (by rfl) (if_pos rfl) (fun w hw _ => ?_) ?_
          · refine Exists.imp (fun v => Exists.imp fun w' (hh : _ ∧ _ ∧ _ ∧ _) => ⟨hh.1, hh.2.1, ⟨hw.size, hh.2.2.1⟩, hh.2.2.2⟩) (app_run (g := g4) (s := .tmp 20) (x := .tmp 22) ?_ ?_ ?_ hlx hpos (xh'.below hw))
            · rfl
            · rfl
            · rfl
          rintro v6 ⟨_, _, -, h6⟩
          obtain ⟨a6, n6, c6, rfl⟩ := h6.form
          clear h6
          iterate 1 (refine RegA.low2_step (fun K hK => ?_); go_simp; first | (refine hK _ ?_; clear hK K) | (apply Exists.intro; refine ⟨fun p => ?_, hK _ ?_⟩; clear hK K))
          refine RegA.low2_slice 1 1 (.cells #[.int .i64 x.id, .slice a6 n6 c6] 47) (by rfl) (fun w => by go_simp; try rfl) ?_
          intro g8
          refine RegA.low2_nil ?_
          intro W2 hC
          have hb2 := hC.1
          obtain ⟨z8, B8⟩ : _ ∧ Bk W2 g8 #[.int .i64 x.id, .slice a6 n6 c6] 47 := hC.made 9 _ rfl
          obtain ⟨u1, u2, hA, hu1, hu2⟩ := hC.made 7 _ rfl
          have hRow : RowC W1.heap.size W2 (.slice a6 n6 c6) x.cs := (hA.2.below hu2).mono hA.1
          have C1 := B1'.below hb2
          have C2 := B2'.below hb2
          obtain ⟨hkl, ss, h1, h2, h3, h4⟩ := hF'
          have h2' := row_below h2 hb2
          have hkk : (es.take k).length = k := by rw [List.length_take, ← HL.out]; omega
          have hS1 := hb1.size
          have hS2 := hb2.size
          refine wpList_append_mine _ rfl _ _ 25 rfl w.heap.size 47 i0 (.agg #[.int .i64 0, .slice none 0 0]) 2 32 Tryd.underlying25 hi hz0 hz1 hz2 rfl (by decide) _ _ _ rfl h2' ⟨g8, 0, none⟩ 1 1 [.int .i64 x.id, .slice a6 n6 c6] rfl rfl ?c1 ?c2 (by decide) ?c4 ?c5 (by omega) ?_
          case c1 =>
            intro j u hj
            match j, hj with
            | 0, hj => simp at hj; subst hj; exact B8.cell 0 rfl
            | 1, hj => simp at hj; subst hj; simp [Addr.add]; exact B8.cell 1 rfl
          case c2 => intro u hu; simp at hu; rcases hu with rfl | rfl <;> rfl
          case c4 => rw [hkk]; unfold maxLen; omega
          case c5 => rw [hkk]; omega
          intro gb cap' w1 hown' hgrow hgb
          change W2.grownBy w1 (Value.slice a' n' c').ownBlock at hgrow
          have D1 : Bk w1 (w.heap.size + 1) #[.int .i64 0, .slice none 0 0] 27 := (hgrow.block _ C1.lt (bk_ne_row C1 (by decide) h2')).trans C1
          have D2 : Bk w1 (w.heap.size + 1 + 1) #[.int .i64 t, .slice a' n' c'] 27 := (hgrow.block _ C2.lt (bk_ne_row C2 (by decide) h2')).trans C2
          have hRow' := hRow.grown hgrow h2' (by decide)
          have hFr : Fresh w.heap.size w1 (.slice (some ⟨gb, 0, none⟩) ((es.take k).length + 1) cap') (es.take k ++ [x]) :=
            Fresh.push (w := W1) ⟨ss, h1, h3, h4, hown'⟩ (by rw [hkk]; omega) hRow' hS1 (fun b hb' ⟨cs, hcs⟩ => (hgrow.block b (Nat.lt_of_lt_of_le hb' hS2) (cells_ne_row (hcs.symm ▸ hb2.block b hb') (by decide) h2')).trans (hb2.block b hb'))
          have hbw : Below w.heap.size w w1 := (hb1.trans (hb2.mono hS1)).grown hgrow (Nat.le_trans hS1 hS2) (fun b hb' => (h2'.lt b hb').1)
          rw [hkk] at hFr ⊢
          clear hown' hgrow hRow hRow' h1 h2 h2' h3 h4 hA hu1 hu2 hC B8 z8 C1 C2 B1' B2' Be xh' hb1 hb2 hkl hS1 hS2 hgb k0 k1 k2 k3
          have d1 := D2.cell (v := .slice a' n' c') 1 rfl
          have e1 := D2.free 1
          have lt2 := D2.lt
          go_wp2
          go_roundw
          case rel => exact ⟨k + 1, _, _, _, by omega, by go_num, D1.far (p := ⟨w.heap.size + 1 + 1, 1, none⟩) (by simp) _, D2.put 1 _, by rw [take_succ HX.out]; exact hFr.set (p := ⟨w.heap.size + 1 + 1, 1, none⟩) D2 (by decide) (by decide) _, hbw.setCell (p := ⟨w.heap.size + 1 + 1, 1, none⟩) (by show w.heap.size ≤ w.heap.size + 1 + 1; omega) _⟩
          case measure => simp [intOf]; omega

    · obtain rfl : k = n := by omega
      have hall : es.take k = es := List.take_of_length_le (by rw [← HL.out]; omega)
      rw [hall] at hF
      have c0 := B2.cell (v := .int .i64 t) 0 rfl
      have c1 := B2.cell (v := .slice a' n' c') 1 rfl
      have d0 := B1.cell (v := .int .i64 0) 0 rfl
      have d1 := B1.cell (v := .slice none 0 0) 1 rfl
      have f0 := B1.free 0
      have f1 := B1.free 1
      go_wp2
      refine post_name (fun V => Bk V (w.heap.size + 1) #[.int .i64 t, .slice a' n' c'] 27 ∧ Fresh w.heap.size V (.slice a' n' c') es ∧ Below w.heap.size w V) ⟨(B1.put 0 _).put 1 _, (hF.set (p := ⟨w.heap.size + 1, 0, none⟩) B1 (by decide) (by decide) _).set (p := ⟨w.heap.size + 1, 1, none⟩) (B1.put 0 _) (by decide) (by decide) _, by go_grown⟩ ?_
      rintro V ⟨BV, hFV, hbV⟩
      clear c0 c1 d0 d1 f0 f1
      have d0 := BV.cell (v := .int .i64 t) 0 rfl
      have d1 := BV.cell (v := .slice a' n' c') 1 rfl
      refine bodyPost_ret (v := Wv t a' n' c') (by simp [results, Tryd.results35, go_sem, d0, d1]; try rfl) rfl ⟨a', n', c', rfl, hFV, hbV⟩
set_option maxHeartbeats 4000000 in
theorem copied_any (H : List Wld) (a : Option Addr) (n c : Nat) (w : World) (h : HistAt w (.slice a n c) H) :
    Calls Tryd.prog 18 #[.slice a n c] w fun e w' => ∃ a' n' c' ss, e = .returned (.slice a' n' c') ∧ HistF w.heap.size w' (.slice a' n' c') H ss ∧ Below w.heap.size w w' := by
  have hlen := h.len
  have HL := Lib.hid hlen
  have hn : n < 1099511627776 := by
    rcases h with ⟨_, rfl⟩ | ⟨b, off, cap, _, hl, _⟩
    · rw [hlen]; simp
    · rw [hlen]; exact hl
  obtain ⟨i0, hi, hz0, hz1, hz2⟩ := info_parts infoW
  have HH := Lib.hid h
  clear hlen h
  go_enter Tryd.func18, Tryd.ntmps18
  go_wp2
  go_loopw [3, 8] (fun v3 v8 wr => ∃ (k : Nat) (a' : Option Addr) (n' c' : Nat) (ss : List Value), k ≤ n ∧ v3 = .slice a' n' c' ∧ v8 = .int .i64 k ∧ HistF w.heap.size wr (.slice a' n' c') (H.take k) ss ∧ Below w.heap.size w wr) (fun v3 v8 _ => n - (intOf v8).toNat)
  case atStart => exact ⟨0, none, 0, 0, [], by omega, rfl, rfl, HistF.nil _ _, by go_grown⟩
  case round =>
    obtain ⟨k, a', n', c', ss, hk, rfl, rfl, hF, hb⟩ := hrel
    have hs := hb.size
    by_cases hlt : k < n
    · obtain ⟨x, hx⟩ := at_lt (l := H) (i := k) (by rw [← HL.out]; exact hlt)
      rcases HH.out with ⟨h, hnil⟩ | ⟨b, off, cap, h, hl, hc⟩
      · rw [hnil] at hx; cases hx
      · injection h with h1 h2 h3
        subst h1 h3
        obtain ⟨x0, xa, xn, xc, x1, xh⟩ := hc k x hx
        have HX := Lib.hid hx
        replace x0 := cell_later hb x0
        replace x1 := cell_later hb x1
        replace xh := xh.below hb
        clear hx h2 hc hl
        go_wp2_with fail
        have hd := (Below.refl wr.heap.size wr).alloc (Nat.le_refl _) (.cells #[.int .i64 x.t, .slice xa xn xc] 27)
        obtain ⟨hbd, hsd⟩ := below_c (w := w) hd hb
        have xh := xh.below hd
        have hF1 := hF.below hd
        have hs1 := hd.size
        clear x0 x1 hd hF
        refine (copy_any x xa xn xc _ xh).mono ?_
        rintro e W2 ⟨ya, yn, yc, rfl, hFy, hb2⟩
        obtain ⟨hb2', hs2⟩ := below_c (w := w) hb2 hbd
        have hF2 := hF1.below hb2
        have hd := (Below.refl W2.heap.size W2).alloc (Nat.le_refl _) (.cells #[.int .i64 x.t, .slice ya yn yc] 27)
        obtain ⟨hbe, hse⟩ := below_c (w := w) hd hb2'
        have hF3 := hF2.below hd
        have hFy3 := hFy.below hd
        have hd2 := below_c (w := (wr.alloc (.cells #[.int .i64 x.t, .slice xa xn xc] 27))) hd hb2
        have B8 : Bk (W2.alloc (.cells #[.int .i64 x.t, .slice ya yn yc] 27)) W2.heap.size #[.int .i64 x.t, .slice ya yn yc] 27 := Bk.made _ _ _
        have hkk : (H.take k).length = k := by rw [List.length_take, ← HL.out]; omega
        have hown := hF3.2.2.1
        clear hb2 hb2' hF2 hbd hsd xh hFy hd
        go_wp2_with (at_builtin; refine wpList_append_mine _ rfl _ _ 23 rfl w.heap.size 27 i0 (.agg #[.int .i64 0, .slice none 0 0]) 2 32 Tryd.underlying23 hi hz0 hz1 hz2 rfl (by decide) _ _ _ rfl hown ⟨W2.heap.size, 0, none⟩ 1 1 [.int .i64 x.t, .slice ya yn yc] rfl rfl ?c1 ?c2 (by decide) ?c4 ?c5 hse ?_)
        case c1 =>
          intro j u hj
          match j, hj with
          | 0, hj => simp at hj; subst hj; exact B8.cell 0 rfl
          | 1, hj => simp at hj; subst hj; simp [Addr.add]; try exact B8.cell 1 rfl
        case c2 => intro u hu; simp at hu; rcases hu with rfl | rfl <;> rfl
        case c4 => rw [hkk]; unfold maxLen; omega
        case c5 => rw [hkk]; omega
        intro gb cap' w1 hown' hgrow hgb
        change (W2.alloc (.cells #[.int .i64 x.t, .slice ya yn yc] 27)).grownBy w1 (Value.slice a' n' c').ownBlock at hgrow
        have hFr := hF1.app (v' := .slice (some ⟨gb, 0, none⟩) (k + 1) cap') (W := x) (s := .slice ya yn yc) hgrow (by rw [hkk, List.map_take]; exact hown') (by rw [hkk]; omega) hFy3 hd2.1 (Nat.le_refl _) (Nat.le_trans hs hs1)
        have hbw : Below w.heap.size w w1 := hbe.grown hgrow hse (fun b hb' => (hown.lt b hb').1)
        clear hown' hgrow hown B8 hF3 hFy3 hgb hF1 hd2 hbe
        go_wp2
        go_roundw
        case rel => exact ⟨k + 1, _, _, _, _, by omega, rfl, by go_num, by rw [take_succ HX.out]; exact hFr, hbw⟩
        case measure => simp [intOf]; omega
    · obtain rfl : k = n := by omega
      have hall : H.take k = H := List.take_of_length_le (by rw [← HL.out]; omega)
      rw [hall] at hF
      go_wp2
      go_returns
      exact ⟨_, _, _, _, rfl, hF, hb⟩
end Go.Proofs.YtjjodmkblpdnhaaDoor
