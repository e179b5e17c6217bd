/- store.Part. -/
import Derived.Test.YtlcjkomfjgddeaaGreatDoorMask
import Derived.Test.YtlcjkomfjgddeaaGreatDoorM12
set_option linter.unusedVariables false
set_option linter.unusedSimpArgs false
namespace Go.Proofs.YtlcjkomfjgddeaaGreatDoor
open Go Go.RowKit Go.Sort
set_option maxRecDepth 100000
attribute [local go_sem] opLow opUpon opLow2 opUpon2

/-- whether a component is among those of a mask -/
def inM (mask : Int) (x : Cmp) : Bool := decide (¬ bits BinOp.and IntKind.u32 (bitM x.k) mask = 0)
def PartPost (w : World) (e : Ent) (mask : Int) (r : Ending) (w' : World) : Prop :=
  ∃ a n c, r = .returned (.agg #[.int .i64 e.id, .slice a n c]) ∧ RowC w.heap.size w' (.slice a n c) (e.cs.filter (inM mask)) ∧ Below w.heap.size w w'
set_option maxHeartbeats 8000000 in
theorem part_any (e : Ent) (a : Option Addr) (n c : Nat) (mask : Int) (w : World) (h : CompsAt w (.slice a n c) e.cs) (hn12 : n ≤ 1000) :
    Calls Tryz.prog 24 #[.agg #[.int .i64 e.id, .slice a n c], .int .u32 mask] w (PartPost w e mask) := by
  have hn : n = e.cs.length := ListAt.len h
  have HL := Lib.hid hn
  have HH := Lib.hid h
  have HKI := Lib.hid (CompsAt.kinds h)
  obtain ⟨i0, hi, hz0, hz1, hz2⟩ := info_parts infoC
  have HIi := Lib.hid hi
  clear hn h hi
  go_enter Tryz.func24, Tryz.ntmps24
  go_upto_region 2 with fail
  refine wp_name (fun V => Bk V w.heap.size #[.int .i64 e.id, .slice a n c] 43 ∧ Bk V (w.heap.size + 1) #[.int .i64 0, .slice none 0 0] 43 ∧ Bk V (w.heap.size + 1 + 1) #[.int .i64 e.id, .slice none 0 0] 43 ∧ Below w.heap.size w V) ⟨((Bk.made _ _ _).alloc _).alloc _, Bk.alloc (Bk.at_ (by simp)) _, Bk.at_ (by simp), by go_grown⟩ ?_
  rintro V1 ⟨B2, B4, B5, hb⟩
  have p1 := B2.cell (v := .slice a n c) 1 rfl
  have pl := B2.lt
  have HB := Lib.hid (And.intro B2 (And.intro B4 (And.intro B5 hb)))
  clear B2 B4 B5 hb
  go_wp2
  clear p1 pl
  go_loopw [14] (fun v14 wr => ∃ (k : Nat) (oa : Option Addr) (on oc : Nat), (k ≤ n ∧ v14 = .int .i64 k) ∧ (Bk wr w.heap.size #[.int .i64 e.id, .slice a n c] 43 ∧ Bk wr (w.heap.size + 1) #[.int .i64 0, .slice none 0 0] 43 ∧ Bk wr (w.heap.size + 1 + 1) #[.int .i64 e.id, .slice oa on oc] 43) ∧ RowC w.heap.size wr (.slice oa on oc) ((e.cs.take k).filter (inM mask)) ∧ Below w.heap.size w wr) (fun v14 _ => n - (intOf v14).toNat)
  case atStart => exact ⟨0, none, 0, 0, ⟨by omega, rfl⟩, ⟨HB.out.1, HB.out.2.1, HB.out.2.2.1⟩, ⟨World.ownsRow_nil _ _ _ _, by simp [Kinds]⟩, HB.out.2.2.2⟩
  case round =>
    clear HB
    obtain ⟨k, oa, on, oc, ⟨hk, rfl⟩, hBs, hRo, hb⟩ := hrel
    have hs := hb.size
    have hon : on = ((e.cs.take k).filter (inM mask)).length := ListAt.len hRo.comps
    have hon2 : on ≤ k := by
      rw [hon]
      exact Nat.le_trans (List.length_filter_le _ _) (List.length_take_le _ _)
    have HB := Lib.hid (And.intro hBs (And.intro hRo (And.intro hb hs)))
    have HON := Lib.hid hon
    clear hon
    by_cases hlt : k < n
    · obtain ⟨x, hx⟩ := at_lt (l := e.cs) (i := k) (by rw [← HL.out]; exact hlt)
      have htk : (e.cs.take (k + 1)).filter (inM mask) = if inM mask x = true then (e.cs.take k).filter (inM mask) ++ [x] else (e.cs.take k).filter (inM mask) := by
        rw [take_succ hx, List.filter_append]
        by_cases ho : inM mask x = true <;> simp [List.filter_cons, ho]
      have HTK := Lib.hid htk
      rcases HH.out with ⟨h1, h2⟩ | ⟨b, off, cap, h1, hl, hc⟩
      · rw [h2] at hx; cases hx
      injection h1 with w1 w2 w3
      subst w1 w3
      obtain ⟨⟨x0, x1, x2, x3, x4⟩, xk⟩ := hc k x hx
      have BO := Lib.hid (fun V => bitOf_any x.k xk V)
      replace x0 := cell_later hb x0
      replace x1 := cell_later hb x1
      replace x2 := cell_later hb x2
      replace x3 := cell_later hb x3
      replace x4 := cell_later hb x4
      clear hc hl hx w2 htk hBs hRo hb
      go_upto_region 5 with fail
      refine wp_name (fun V => (Bk V w.heap.size #[.int .i64 e.id, .slice (some ⟨b, off, none⟩) n c] 43 ∧ Bk V (w.heap.size + 1) #[.int .i64 0, .slice none 0 0] 43 ∧ Bk V (w.heap.size + 1 + 1) #[.int .i64 e.id, .slice oa on oc] 43) ∧ (RowC w.heap.size V (.slice oa on oc) ((e.cs.take k).filter (inM mask)) ∧ Below w.heap.size w V) ∧ Bk V wr.heap.size #[.int .u8 x.k, .int .i64 x.a, .int .i64 x.b, .int .i64 x.c, .int .i64 x.d] 48) ⟨⟨HB.out.1.1.alloc _, HB.out.1.2.1.alloc _, HB.out.1.2.2.alloc _⟩, ⟨HB.out.2.1.below ((Below.refl _ _).alloc (Nat.le_refl _) _), HB.out.2.2.1.alloc HB.out.2.2.2 _⟩, Bk.made _ _ _⟩ ?_
      have hrw : ∀ r, (Value.slice oa on oc).ownBlock = some r → r ≠ wr.heap.size := fun r hr q => by have := (HB.out.2.1.lt hr).2; omega
      obtain ⟨g7, hg7⟩ : ∃ g, wr.heap.size = g := ⟨_, rfl⟩
      rw [hg7] at hrw hs ⊢
      clear hg7 HB x0 x1 x2 x3 x4
      rintro V2 ⟨hBs, hRb, B7⟩
      have z0 := B7.cell (v := .int .u8 x.k) 0 rfl
      have zl := B7.lt
      have HB := Lib.hid (And.intro hBs (And.intro hRb B7))
      clear hBs hRb B7
      go_wp2_with fail
      refine (BO.out _).mono ?_
      rintro r V3 ⟨rfl, hb3⟩
      obtain ⟨⟨B2, B4, B5⟩, ⟨hRo, hb⟩, B7⟩ := HB.out
      replace B2 := B2.below hb3
      replace B4 := B4.below hb3
      replace B5 := B5.below hb3
      replace hRo := hRo.below hb3
      replace B7 := B7.below hb3
      obtain ⟨hb, hs⟩ := below_cc hb3 hb
      clear hb3 HB BO z0 zl
      by_cases hin : bits BinOp.and IntKind.u32 (bitM x.k) mask = 0
      · have hno : inM mask x = false := by unfold inM; rw [decide_eq_false (fun q => q hin)]
        rw [hno] at HTK
        have HB := Lib.hid (And.intro B2 (And.intro B4 (And.intro B5 (And.intro hRo hb))))
        clear B2 B4 B5 hRo hb B7 hno hrw hs
        go_wp2
        go_roundw
        case rel => exact ⟨k + 1, oa, on, oc, ⟨by omega, by go_num⟩, ⟨HB.out.1, HB.out.2.1, HB.out.2.2.1⟩, by rw [HTK.out, if_neg (by simp)]; exact HB.out.2.2.2.1, HB.out.2.2.2.2⟩
        case measure => simp [intOf]; omega
      · have hyes : inM mask x = true := by unfold inM; rw [decide_eq_true hin]
        rw [hyes] at HTK
        have q1 := B5.cell (v := .slice oa on oc) 1 rfl
        have z0 := B7.cell (v := .int .u8 x.k) 0 rfl
        have z1 := B7.cell (v := .int .i64 x.a) 1 rfl
        have z2 := B7.cell (v := .int .i64 x.b) 2 rfl
        have z3 := B7.cell (v := .int .i64 x.c) 3 rfl
        have z4 := B7.cell (v := .int .i64 x.d) 4 rfl
        have zl := B7.lt
        have ql := B5.lt
        have HB := Lib.hid (And.intro B2 (And.intro B4 (And.intro B5 (And.intro hRo (And.intro hb (And.intro hs xk))))))
        clear B2 B4 B5 hRo hb B7 hyes hs
        go_wp2_with (at_builtin; refine wpL_name (fun W5 => Bk W5 V3.heap.size #[.int .u8 x.k, .int .i64 x.a, .int .i64 x.b, .int .i64 x.c, .int .i64 x.d] 48 ∧ Below V3.heap.size V3 W5) ⟨Bk.made _ _ _, (Below.refl _ _).alloc (Nat.le_refl _) _⟩ ?_)
        rintro V5 ⟨BX, hb5⟩
        obtain ⟨B2, B4, B5, hRo, hb, hs, xk⟩ := HB.out
        replace B2 := B2.below hb5
        replace B4 := B4.below hb5
        replace B5 := B5.below hb5
        replace hRo := hRo.below hb5
        obtain ⟨hb, hs⟩ := below_cc hb5 hb
        clear hb5 HB q1 z0 z1 z2 z3 z4 zl ql
        refine wpList_append_mine _ rfl _ _ 41 rfl w.heap.size 48 i0 (.agg #[.int .u8 0, .int .i64 0, .int .i64 0, .int .i64 0, .int .i64 0]) 5 40 Tryz.underlying41 HIi.out hz0 hz1 hz2 rfl (by decide) (.slice oa on oc) on (cvs ((e.cs.take k).filter (inM mask))) rfl (by have := hRo.1; rw [← HON.out] at this; exact this) ⟨V3.heap.size, 0, none⟩ 1 1 (cvs [x]) rfl rfl ?c1 (cvs_one [x]) (by decide) ?c4 ?c5 hs ?_
        case c1 =>
          intro j u hj
          rw [Addr.add_lit, Nat.zero_add]
          exact BX.cell j (by rw [← hj]; simp [cvs, cv])
        case c4 => unfold maxLen; omega
        case c5 => omega
        intro gS capS wS hownS hgS hlS
        have hrow2 : RowC w.heap.size wS (.slice (some ⟨gS, 0, none⟩) (on + 1) capS) ((e.cs.take k).filter (inM mask) ++ [x]) := by
          refine ⟨?_, ?_, ?_⟩
          · rw [List.length_append, ← HON.out]
            unfold cvs at hownS ⊢
            rw [List.flatMap_append]
            exact hownS
          · intro y hy
            rcases List.mem_append.1 hy with h1 | h1
            · exact hRo.2.1 y h1
            · simp at h1; subst h1; exact xk
          · rw [List.length_append, ← HON.out]; simp; omega
        have D2 : Bk wS w.heap.size #[.int .i64 e.id, .slice (some ⟨b, off, none⟩) n c] 43 := (hgS.block _ B2.lt (bk_ne_row B2 (by decide) hRo.1)).trans B2
        have D4 : Bk wS (w.heap.size + 1) #[.int .i64 0, .slice none 0 0] 43 := (hgS.block _ B4.lt (bk_ne_row B4 (by decide) hRo.1)).trans B4
        have D5 : Bk wS (w.heap.size + 1 + 1) #[.int .i64 e.id, .slice oa on oc] 43 := (hgS.block _ B5.lt (bk_ne_row B5 (by decide) hRo.1)).trans B5
        have hb6 : Below w.heap.size w wS := hb.grown hgS hs (fun q e => (hRo.1.lt q e).1)
        have n2 : w.heap.size ≠ w.heap.size + 1 + 1 := by omega
        have n4 : w.heap.size + 1 ≠ w.heap.size + 1 + 1 := by omega
        have HX := Lib.hid (And.intro (D2.far (p := ⟨w.heap.size + 1 + 1, 1, none⟩) n2 (.slice (some ⟨gS, 0, none⟩) (on + 1) capS)) (And.intro (D4.far (p := ⟨w.heap.size + 1 + 1, 1, none⟩) n4 (.slice (some ⟨gS, 0, none⟩) (on + 1) capS)) (And.intro (D5.put 1 (.slice (some ⟨gS, 0, none⟩) (on + 1) capS)) (And.intro (hrow2.set (p := ⟨w.heap.size + 1 + 1, 1, none⟩) D5 (by decide) (.slice (some ⟨gS, 0, none⟩) (on + 1) capS)) (hb6.setCell (p := ⟨w.heap.size + 1 + 1, 1, none⟩) (by simp; omega) (.slice (some ⟨gS, 0, none⟩) (on + 1) capS))))))
        have e1 := D5.cell (v := .slice oa on oc) 1 rfl
        have f1 := D5.free 1
        have lt5 := D5.lt
        clear hrow2 hb6 hgS hownS hlS hRo hb hs B2 B4 B5 BX D2 D4 D5 hrw
        go_wp2
        go_roundw
        case rel => exact ⟨k + 1, some ⟨gS, 0, none⟩, on + 1, capS, ⟨by omega, by go_num⟩, ⟨HX.out.1, HX.out.2.1, HX.out.2.2.1⟩, by rw [HTK.out, if_pos (by simp)]; exact HX.out.2.2.2.1, HX.out.2.2.2.2⟩
        case measure => simp [intOf]; omega
    · obtain rfl : k = n := by omega
      have hfull : (e.cs.take k).filter (inM mask) = e.cs.filter (inM mask) := by rw [List.take_of_length_le (by rw [← HL.out]; exact Nat.le_refl _)]
      rw [hfull] at hRo HB HON
      obtain ⟨B2, B4, B5⟩ := hBs
      have n4 : w.heap.size + 1 + 1 ≠ w.heap.size + 1 := by omega
      have q0 := B5.cell (v := .int .i64 e.id) 0 rfl
      have q1 := B5.cell (v := .slice oa on oc) 1 rfl
      have ql := B5.lt
      have r0 := B4.cell (v := .int .i64 0) 0 rfl
      have r1 := B4.cell (v := .slice none 0 0) 1 rfl
      have f0 := B4.free 0
      have f1 := B4.free 1
      have lt := B4.lt
      have E0 := B4.put 0 (.int .i64 e.id)
      have E1 := E0.put 1 (.slice oa on oc)
      have HX := Lib.hid (And.intro E1 (And.intro ((hRo.set (p := ⟨w.heap.size + 1, 0, none⟩) B4 (by decide) (.int .i64 e.id)).set (p := ⟨w.heap.size + 1, 1, none⟩) E0 (by decide) (.slice oa on oc)) ((hb.setCell (p := ⟨w.heap.size + 1, 0, none⟩) (Nat.le_succ _) (.int .i64 e.id)).setCell (p := ⟨w.heap.size + 1, 1, none⟩) (Nat.le_succ _) (.slice oa on oc))))
      clear E0 E1 hRo hb B2 B4 B5 HB hfull
      go_wp2
      refine post_name (fun V => Bk V (w.heap.size + 1) #[.int .i64 e.id, .slice oa on oc] 43 ∧ RowC w.heap.size V (.slice oa on oc) (e.cs.filter (inM mask)) ∧ Below w.heap.size w V) HX.out ?_
      clear HX q0 q1 ql r0 r1 f0 f1 lt
      rintro V7 ⟨BV, hRV, hbV⟩
      have y0 := BV.cell (v := .int .i64 e.id) 0 rfl
      have y1 := BV.cell (v := .slice oa on oc) 1 rfl
      exact bodyPost_ret (v := .agg #[.int .i64 e.id, .slice oa on oc]) (by simp [results, Tryz.results24, go_sem, y0, y1]; try rfl) rfl ⟨oa, on, oc, rfl, hRV, hbV⟩
end Go.Proofs.YtlcjkomfjgddeaaGreatDoor
