/- marcheslaw28.at, pos. -/
import Derived.Test.YtjjodmkblpdnhaaDoorInterp2
set_option linter.unusedVariables false
set_option linter.unusedSimpArgs false
namespace Go.Proofs.YtjjodmkblpdnhaaDoor
open Go Go.RowKit Go.Sort
set_option maxRecDepth 100000
attribute [local go_sem] opLow opUpon opLow2 opUpon2

theorem ownsRow_full {w : World} {base g : Nat} {t : TypeId} {size n : Nat} {cs : Array Value} (h : Bk w g cs t) (hg : base ≤ g) (hs : cs.size = n * size) (hn : n ≤ maxLen) : w.ownsRow base t size (.slice (some ⟨g, 0, none⟩) n n) n cs.toList :=
  ⟨by simpa using hs, .inr ⟨g, n, cs, rfl, hg, h, Nat.le_refl _, hn, hs, by rw [List.take_of_length_le (by simp [hs])]⟩⟩
/-- one entity with one component, made by the call -/
theorem fresh_one {w : World} {base g h : Nat} {id k a b c d : Int} (hg : Bk w g #[.int .u8 k, .int .i64 a, .int .i64 b, .int .i64 c, .int .i64 d] 67) (hh : Bk w h #[.int .i64 id, .slice (some ⟨g, 0, none⟩) 1 1] 47) (h1 : base ≤ g) (h2 : base ≤ h) (hk : 0 ≤ k ∧ k ≤ 255) :
    Fresh base w (.slice (some ⟨h, 0, none⟩) 1 1) [⟨id, [⟨k, a, b, c, d⟩]⟩] := by
  refine ⟨by simp, [.slice (some ⟨g, 0, none⟩) 1 1], rfl, ownsRow_full (n := 1) hh h2 rfl (by decide), fun i s e hs he => ?_, fun i j s t b hij hs ht => ?_⟩
  · match i, hs, he with
    | 0, hs, he =>
      simp only [List.getElem?_cons_zero, Option.some.injEq] at hs he
      subst hs he
      exact ⟨ownsRow_full (n := 1) hg h1 rfl (by decide), fun x hx => by simp at hx; subst hx; exact hk, by simp⟩
    | i + 1, hs, he => simp at hs
  · match i, j, hs, ht with
    | 0, 0, _, _ => omega
    | i + 1, _, hs, _ => simp at hs
    | _, j + 1, _, ht => simp at ht
set_option maxHeartbeats 1000000 in
theorem at_any (t x y : Int) (w : World) :
    Calls Tryd.prog 12 #[.int .i64 t, .int .i64 x, .int .i64 y] w fun e w' => ∃ a n c, e = .returned (Wv t a n c) ∧ Fresh w.heap.size w' (.slice a n c) [⟨1, [⟨1, x, y, 0, 0⟩]⟩] ∧ Below w.heap.size w w' := by
  go_enter Tryd.func12, Tryd.ntmps12
  go_wp2
  refine post_name (fun V => Bk V w.heap.size #[.int .i64 t, .slice (some ⟨w.heap.size + 1 + 1, 0, none⟩) 1 1] 27 ∧ Bk V (w.heap.size + 1) #[.int .u8 1, .int .i64 x, .int .i64 y, .int .i64 0, .int .i64 0] 67 ∧ Bk V (w.heap.size + 1 + 1) #[.int .i64 1, .slice (some ⟨w.heap.size + 1, 0, none⟩) 1 1] 47 ∧ Below w.heap.size w V) ⟨((Bk.made _ _ _).alloc _).alloc _, (Bk.at_ (by simp)).alloc _, Bk.at_ (by simp), by go_grown⟩ ?_
  rintro V ⟨BW, BC, BE, hb⟩
  have y0 := BW.cell (v := .int .i64 t) 0 rfl
  have y1 := BW.cell (v := .slice (some ⟨w.heap.size + 1 + 1, 0, none⟩) 1 1) 1 rfl
  exact bodyPost_ret (v := Wv t (some ⟨w.heap.size + 1 + 1, 0, none⟩) 1 1) (by simp [results, Tryd.results12, go_sem, y0, y1]; try rfl) rfl ⟨_, _, _, rfl, fresh_one BC BE (by omega) (by omega) (by decide), hb⟩
/-- what pos returns -/
def posG (W : Wld) (id : Int) : Value := match getM W id 1 with
  | some x => .tuple #[.agg #[.int .i64 x.a, .int .i64 x.b], .bool true]
  | none => .tuple #[.agg #[.int .i64 0, .int .i64 0], .bool false]
set_option maxHeartbeats 2000000 in
theorem pos_any (W : Wld) (a : Option Addr) (n c : Nat) (id : Int) (w : World) (hR : RG w) (h : EntsAt w (.slice a n c) W.es) (hV : Valid W) :
    Calls Tryd.prog 20 #[Wv W.t a n c, .int .i64 id] w fun e w' => e = .returned (posG W id) ∧ Below w.heap.size w w' := by
  have hb0 := ((Below.refl w.heap.size w).alloc (Nat.le_refl _) (.cells #[.int .i64 W.t, .slice a n c] 27)).alloc (by simp) (.cells #[.int .i64 0, .int .i64 0] 54)
  obtain ⟨m, hm⟩ : ∃ m, getM W id 1 = m := ⟨_, rfl⟩
  have HM := Lib.hid hm
  have hg : ∃ x : Cmp, ∃ ok : Bool, getV W id 1 = .tuple #[C x, .bool ok] ∧ posG W id = .tuple #[.agg #[.int .i64 x.a, .int .i64 x.b], .bool ok] := by
    cases m with
    | none => exact ⟨_, _, getV_none hm, by unfold posG; rw [hm]⟩
    | some x => exact ⟨x, true, getV_some hm, by unfold posG; rw [hm]⟩
  obtain ⟨x, ok, g1, g2⟩ := hg
  have HG := Lib.hid g2
  clear g2 hm
  go_enter Tryd.func20, Tryd.ntmps20
  go_wp2_with fail
  refine Calls.mono (get_any W a n c id 1 _ (hR.below hb0) (h.below hb0) hV) ?_
  rw [g1]
  rintro e w1 ⟨rfl, hb⟩
  have B2 : Bk w1 (w.heap.size + 1) #[.int .i64 0, .int .i64 0] 54 := Bk.below (Bk.at_ (by simp)) hb
  obtain ⟨hg1, hs1⟩ := below_c (w := w) hb hb0
  have lt := B2.lt
  have z0 := B2.cell (v := .int .i64 0) 0 rfl
  have z1 := B2.cell (v := .int .i64 0) 1 rfl
  have f0 := B2.free 0
  have f1 := B2.free 1
  go_wp2
  refine post_name (fun V => Bk V (w.heap.size + 1) #[.int .i64 x.a, .int .i64 x.b] 54 ∧ Below w.heap.size w V) ⟨by first | exact ((B2.put 0 _).put 1 _).alloc _ | exact ((B2.alloc _).put 0 _).put 1 _, by go_grown⟩ ?_
  rintro V ⟨BV, hbV⟩
  have y0 := BV.cell (v := .int .i64 x.a) 0 rfl
  have y1 := BV.cell (v := .int .i64 x.b) 1 rfl
  exact bodyPost_ret (v := .tuple #[.agg #[.int .i64 x.a, .int .i64 x.b], .bool ok]) (by simp [results, Tryd.results20, go_sem, y0, y1]; try rfl) rfl ⟨by rw [HG.out], hbV⟩
end Go.Proofs.YtjjodmkblpdnhaaDoor
