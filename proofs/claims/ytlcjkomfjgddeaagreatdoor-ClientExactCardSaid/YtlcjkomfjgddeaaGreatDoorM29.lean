/- A predicted tick as plain data; a new list of components of an entity; IndexFunc over the closure of client.Predict. Plain laws of points: steps towards a point, sides of lines, products. No program in sight. The walks of package vec. -/
import Derived.Test.YtlcjkomfjgddeaaGreatDoorM24
import Derived.Test.YtlcjkomfjgddeaaGreatDoorM25
import Derived.Test.YtlcjkomfjgddeaaGreatDoorM28
import Derived.Test.YtlcjkomfjgddeaaGreatDoorM07
import Derived.Test.YtlcjkomfjgddeaaGreatDoorM09
import Derived.Test.YtlcjkomfjgddeaaGreatDoorM03
set_option linter.unusedVariables false
set_option linter.unusedSimpArgs false
namespace Go.Proofs.YtlcjkomfjgddeaaGreatDoor
open Go Go.RowKit Go.Sort
set_option maxRecDepth 100000
attribute [local go_sem] opLow opUpon opLow2 opUpon2

/-- an entity ahead of a predicted tick: the client's own get the speed of the input, the others lose theirs -/
def stillE (id X Y : Int) (e : Ent) : Ent :=
  match e.cs[e.cs.findIdx (keyC 2)]? with
  | none => e
  | some v => if ownB id e = true then ⟨e.id, e.cs.set (e.cs.findIdx (keyC 2)) (putXY X Y v)⟩ else ⟨e.id, e.cs.eraseIdx (e.cs.findIdx (keyC 2))⟩
/-- the entity n in the place of e, if e belongs to the client -/
def takeE (id : Int) (e n : Ent) : Ent := if ownB id e = true then ⟨e.id, n.cs⟩ else e
/-- the entities behind a predicted tick -/
def predM (id gx gy X Y : Int) (es : List Ent) : List Ent := es.zipWith (takeE id) (worldM gx gy (es.map (stillE id X Y)))
theorem pred1_any (x : Cmp) (w : World) :
    Calls Tryz.prog 40 #[C x] w fun e w' => e = .returned (.bool (keyC 2 x)) ∧ Below w.heap.size w w' := by
  by_cases hk : x.k = 2
  · have h1 : keyC 2 x = true := by unfold keyC; simpa using hk
    have h2 : ((x.k : Int) == 2) = true := by simpa using hk
    rw [h1]
    clear h1 hk
    go_enter Tryz.func40, Tryz.ntmps40
    go_wp2
    go_returns
    exact ⟨rfl, by go_grown⟩
  · have h1 : keyC 2 x = false := by unfold keyC; simpa using hk
    have h2 : ((x.k : Int) == 2) = false := by simpa using hk
    rw [h1]
    clear h1 hk
    go_enter Tryz.func40, Tryz.ntmps40
    go_wp2
    go_returns
    exact ⟨rfl, by go_grown⟩
set_option maxHeartbeats 4000000 in
theorem indexVel_any (l : List Cmp) (v : Value) (w : World) (h : CompsAt w v l) :
    Calls Tryz.prog 39 #[v, .func (.func 40) #[] #[]] w fun e w' => e = .returned (.int .i64 (firstOf (keyC 2) l)) ∧ Below w.heap.size w w' := by
  rcases h with ⟨⟨a0, rfl⟩, rfl⟩ | ⟨b, off, cap, rfl, hl, hc⟩
  · go_enter Tryz.func39, Tryz.ntmps39
    go_wp2
    refine wp_loop_rounds 1 ?_
    rw [rounds_succ]
    go_wp2
    go_returns
    exact ⟨rfl, by go_grown⟩
  · obtain ⟨n, hn⟩ : ∃ n, l.length = n := ⟨_, rfl⟩
    have HN := Lib.hid hn
    rw [hn] at hl ⊢
    clear hn
    go_enter Tryz.func39, Tryz.ntmps39
    go_wp2
    go_loopw [8] (fun v8 wr => ∃ j : Nat, j ≤ n ∧ v8 = .int .i64 j ∧ Hid (∀ i x, i < j → l[i]? = some x → (keyC 2) x = false) ∧ Below w.heap.size w wr) (fun v8 _ => n - (intOf v8).toNat)
    case atStart => exact ⟨0, by omega, rfl, Lib.hid (fun i x hi => absurd hi (by omega)), by go_grown⟩
    case round =>
      obtain ⟨j, hj, rfl, HJ, hb⟩ := hrel
      by_cases hlt : j < n
      · obtain ⟨x, hx⟩ := at_lt (l := l) (i := j) (by rw [HN.out]; omega)
        have hP := hc j x hx
        obtain ⟨⟨x0, x1, x2, x3, x4⟩, xk⟩ := hP
        have HX := Lib.hid (And.intro hx (hc j x hx))
        clear hx
        replace x0 := cell_later hb x0
        replace x1 := cell_later hb x1
        replace x2 := cell_later hb x2
        replace x3 := cell_later hb x3
        replace x4 := cell_later hb x4
        go_wp2_with fail
        with_reducible refine (pred1_any x _).mono ?_
        rintro e W1 ⟨rfl, hb1⟩
        obtain ⟨hb', hs'⟩ := below_c (w := w) hb1 hb
        clear x0 x1 x2 x3 x4 hb1 hb
        by_cases hbad : (keyC 2) x = true
        · have HB := Lib.hid hbad
          try simp only at hbad
          go_wp2
          go_returns
          exact ⟨ret_i64 (firstOf_yes HX.out.1 HB.out HJ.out).symm, hb'⟩
        · have hbad : (keyC 2) x = false := by simpa using hbad
          have HB := Lib.hid hbad
          try simp only at hbad
          go_wp2
          go_roundw
          case rel => exact ⟨j + 1, by omega, by go_num, Lib.hid (fun i y hi hy => by
            rcases Nat.lt_succ_iff_lt_or_eq.1 hi with h | h
            · exact HJ.out i y h hy
            · subst h
              rw [HX.out.1] at hy
              cases hy
              exact HB.out), hb'⟩
          case measure => simp [intOf]; omega
      · go_wp2
        go_returns
        exact ⟨ret_i64 (firstOf_no (fun i x hx => HJ.out i x (by have := (List.getElem?_eq_some_iff.1 hx).1; have := HN.out; omega) hx)).symm, hb⟩
/-- another list of components for an entity of the world -/
theorem FreshS.put {base : Nat} {w w' : World} {gE nE capE : Nat} {es : List Ent} {ss : List Value} {i : Nat} {e : Ent} {s s' : Value} {cs' : List Cmp} (h : FreshS base w (.slice (some ⟨gE, 0, none⟩) nE capE) es ss) (he : es[i]? = some e) (hs : ss[i]? = some s) (hg : w.grownBy w' s.ownBlock) (hr : RowC base w' s' cs') (hown : s'.ownBlock = s.ownBlock ∨ ∀ b, s'.ownBlock = some b → w.heap.size ≤ b) :
    FreshS base (w'.setCell ⟨gE, i * 2 + 1, none⟩ s') (.slice (some ⟨gE, 0, none⟩) nE capE) (es.set i ⟨e.id, cs'⟩) (ss.set i s') ∧ ∃ cur, Bk w' gE cur 43 := by
  obtain ⟨h0, h1, h2, h3, h4⟩ := h
  have hi := (List.getElem?_eq_some_iff.1 he).1
  have hrow := h3 i s e hs he
  have h2' : w'.ownsRow base 43 2 (.slice (some ⟨gE, 0, none⟩) nE capE) es.length (evs ((es.map Ent.id).zip ss)) := h2.kept hg (by
    rcases hrow.1.2 with ⟨hv, _⟩ | ⟨g, cap, cur, hv, hb, hh, _⟩
    · right; rw [hv]; simp [Value.ownBlock]
    · right
      rw [hv]
      exact fun q => bk_ne_row hh (by decide) h2 q.symm)
  obtain ⟨cur, hcur⟩ : ∃ cur, Bk w' gE cur 43 := by
    rcases h2'.2 with ⟨hv, _⟩ | ⟨g, cap, cur, hv, hb, hh, _⟩
    · cases hv
    · cases hv; exact ⟨cur, hh⟩
  refine ⟨⟨by simpa using h0, by simp [h1], ?_, ?_, ?_⟩, cur, hcur⟩
  · obtain rfl : nE = es.length := by
      rcases h2'.2 with ⟨hv, _⟩ | ⟨g, cap, cur, hv, hb, hh, _⟩
      · cases hv
      · cases hv; rfl
    have hst := (h2'.stored (i * 2 + 1) s').1
    have hz : ((es.map Ent.id).zip ss)[i]? = some (e.id, s) := by rw [List.getElem?_zip_eq_some]; exact ⟨by simp [he], hs⟩
    have hzz : ((es.map Ent.id).zip ss).set i (e.id, s') = ((es.set i ⟨e.id, cs'⟩).map Ent.id).zip (ss.set i s') := by
      apply List.ext_getElem?
      intro k
      rw [List.getElem?_set]
      by_cases hk : i = k
      · subst hk
        rw [if_pos rfl, if_pos (by simp [h1, hi])]
        symm
        rw [List.getElem?_zip_eq_some]
        exact ⟨by rw [List.getElem?_map, List.getElem?_set_self hi]; rfl, by rw [List.getElem?_set_self (by omega)]⟩
      · rw [if_neg hk]
        simp only [List.zip, List.getElem?_zipWith, List.getElem?_map, List.getElem?_set_ne hk]
    unfold evs at hst
    rw [flat_set ev 2 ev_len _ i 1 (e.id, s) (e.id, s') s' hz (by decide) rfl, hzz] at hst
    rw [List.length_set]
    exact hst
  · intro k t z hk hz
    by_cases hki : i = k
    · subst hki
      rw [List.getElem?_set_self (by omega)] at hk
      injection hk with hk
      subst hk
      rw [List.getElem?_set_self hi] at hz
      injection hz with hz
      subst hz
      exact hr.set (p := ⟨gE, i * 2 + 1, none⟩) hcur (by decide) _
    · rw [List.getElem?_set_ne hki] at hk hz
      have hc := h3 k t z hk hz
      refine RowC.set (p := ⟨gE, i * 2 + 1, none⟩) ⟨hc.1.kept hg ?_, hc.2⟩ hcur (by decide) _
      rcases hq : t.ownBlock with _ | b
      · exact .inl rfl
      · right
        intro q
        rcases Nat.lt_or_gt_of_ne hki with hlt | hlt
        · exact h4 i k _ _ _ hlt hs hk (q.symm) hq
        · exact h4 k i _ _ _ hlt hk hs hq q.symm
  · have key : ∀ k t, k ≠ i → ss[k]? = some t → ∀ b, t.ownBlock = some b → s'.ownBlock ≠ some b := fun k t hki hk b hb hq => by
      obtain ⟨z, hz⟩ := at_lt (l := es) (i := k) (by rw [← h1]; exact (List.getElem?_eq_some_iff.1 hk).1)
      rcases hown with ho | ho
      · rw [ho] at hq
        rcases Nat.lt_or_gt_of_ne hki with hlt | hlt
        · exact h4 k i _ _ _ hlt hk hs hb hq
        · exact h4 i k _ _ _ hlt hs hk hq hb
      · have := ho b hq
        have := ((h3 k t z hk hz).1.lt b hb).2
        omega
    intro p q t u b hpq hp hq hb
    by_cases hpi : p = i
    · subst hpi
      rw [List.getElem?_set_self (by omega)] at hp
      injection hp with hp
      subst hp
      rw [List.getElem?_set_ne (by omega)] at hq
      exact fun h => key q u (by omega) hq b h hb
    · by_cases hqi : q = i
      · subst hqi
        rw [List.getElem?_set_self (by omega)] at hq
        injection hq with hq
        subst hq
        rw [List.getElem?_set_ne (by omega)] at hp
        exact key p t hpi hp b hb
      · rw [List.getElem?_set_ne (by omega)] at hp hq
        exact h4 p q t u b hpq hp hq hb
/-- the first k entities of a list changed -/
def headL (f : Ent → Ent) (es : List Ent) (k : Nat) : List Ent := (es.take k).map f ++ es.drop k
theorem headL_len (f : Ent → Ent) (es : List Ent) (k : Nat) : (headL f es k).length = es.length := by
  unfold headL
  rw [List.length_append, List.length_map, ← List.length_append, List.take_append_drop]
theorem headL_zero (f : Ent → Ent) (es : List Ent) : headL f es 0 = es := rfl
theorem headL_all (f : Ent → Ent) (es : List Ent) : headL f es es.length = es.map f := by unfold headL; simp
theorem headL_at (f : Ent → Ent) {es : List Ent} {k : Nat} {e : Ent} (h : es[k]? = some e) : (headL f es k)[k]? = some e := by
  have hk := (List.getElem?_eq_some_iff.1 h).1
  unfold headL
  rw [List.getElem?_append_right (by simp; omega), List.length_map, List.length_take, Nat.min_eq_left (by omega), Nat.sub_self, List.getElem?_drop]
  simpa using h
theorem headL_set (f : Ent → Ent) {es : List Ent} {k : Nat} {e : Ent} (h : es[k]? = some e) : (headL f es k).set k (f e) = headL f es (k + 1) := by
  have hk := (List.getElem?_eq_some_iff.1 h).1
  have hl : ((es.take k).map f).length = k := by rw [List.length_map, List.length_take]; omega
  unfold headL
  rw [List.set_append_right _ _ (by rw [hl]; exact Nat.le_refl _), hl, Nat.sub_self, drop_at h, List.set_cons_zero, take_succ h, List.map_append, List.append_assoc]
  rfl
theorem headL_stay (f : Ent → Ent) {es : List Ent} {k : Nat} {e : Ent} (h : es[k]? = some e) (hf : f e = e) : headL f es (k + 1) = headL f es k := by
  rw [← headL_set f h, hf, set_self (headL_at f h)]
end Go.Proofs.YtlcjkomfjgddeaaGreatDoor
namespace Go.Proofs.YtlcjkomfjgddeaaGreatDoor

/-- the greater magnitude -/
def vfar (x y : Int) : Int := max (x.natAbs : Int) (y.natAbs : Int)
theorem vfar_bd (x y : Int) : (x.natAbs : Int) ≤ vfar x y ∧ (y.natAbs : Int) ≤ vfar x y ∧ 0 ≤ vfar x y ∧ (vfar x y = (x.natAbs : Int) ∨ vfar x y = (y.natAbs : Int)) := by unfold vfar; omega
theorem tq_neg_l (x y : Int) : tq (-x) y = -(tq x y) := by
  unfold tq
  by_cases h : x = 0
  · subst h; simp
  · by_cases h1 : x < 0 <;> by_cases h2 : y < 0
    · rw [if_neg (by omega), if_pos (by omega), Int.natAbs_neg]
    · rw [if_pos (by omega), if_neg (by omega), Int.natAbs_neg]; omega
    · rw [if_pos (by omega), if_neg (by omega), Int.natAbs_neg]; omega
    · rw [if_neg (by omega), if_pos (by omega), Int.natAbs_neg]
theorem tq_neg_r (x y : Int) : tq x (-y) = -(tq x y) := by
  unfold tq
  by_cases h : y = 0
  · subst h; simp
  · by_cases h1 : x < 0 <;> by_cases h2 : y < 0
    · rw [if_neg (by omega), if_pos (by omega), Int.natAbs_neg]
    · rw [if_pos (by omega), if_neg (by omega), Int.natAbs_neg]; omega
    · rw [if_pos (by omega), if_neg (by omega), Int.natAbs_neg]; omega
    · rw [if_neg (by omega), if_pos (by omega), Int.natAbs_neg]
theorem tq_pos (x y : Int) (hx : 0 ≤ x) (hy : 0 < y) : tq x y = x / y := by
  unfold tq; rw [if_pos (by omega), show (x.natAbs : Int) = x by omega, show (y.natAbs : Int) = y by omega]
theorem tq_zero (y : Int) : tq 0 y = 0 := by unfold tq; simp
theorem tq_mul (x y : Int) (hy : y ≠ 0) : tq (x * y) y = x := by
  have key : ∀ a b : Int, 0 ≤ a → 0 < b → tq (a * b) b = a := fun a b ha hb => by rw [tq_pos _ _ (Int.mul_nonneg ha (by omega)) hb, Int.mul_ediv_cancel _ (by omega)]
  rcases (by omega : 0 ≤ x ∨ 0 ≤ -x) with h1 | h1 <;> rcases (by omega : 0 < y ∨ 0 < -y) with h2 | h2
  · exact key x y h1 h2
  · have := key x (-y) h1 h2; rw [Int.mul_neg, tq_neg_l, tq_neg_r] at this; omega
  · have := key (-x) y h1 h2; rw [Int.neg_mul, tq_neg_l] at this; omega
  · have := key (-x) (-y) h1 h2; rw [Int.neg_mul_neg, tq_neg_r] at this; omega
theorem tq_one (x : Int) : tq x 1 = x := by have := tq_mul x 1 (by decide); rwa [Int.mul_one] at this
/-- one coordinate of a step of the length m on a way whose greater coordinate is f -/
def wst (x f m : Int) : Int := if m ≤ 0 then 0 else if f ≤ m then x else tq (x * m) f
theorem wst_neg (x f m : Int) : wst (-x) f m = -(wst x f m) := by
  unfold wst; split
  · rfl
  · split
    · rfl
    · rw [Int.neg_mul, tq_neg_l]
theorem wst_zero (f m : Int) : wst 0 f m = 0 := by
  unfold wst; split
  · rfl
  · split
    · rfl
    · rw [Int.zero_mul, tq_zero]
/-- a part of a way: p of q -/
theorem part_pos (x f m : Int) (h0 : 0 ≤ x) (h1 : x ≤ f) (h2 : 0 ≤ m) (h3 : m < f) : 0 ≤ tq (x * m) f ∧ tq (x * m) f ≤ x ∧ tq (x * m) f ≤ m ∧ x - tq (x * m) f ≤ f - m ∧ (x = f → tq (x * m) f = m) ∧ (0 ≤ x * m - tq (x * m) f * f ∧ x * m - tq (x * m) f * f < f) := by
  rw [tq_pos _ _ (Int.mul_nonneg h0 h2) (by omega)]
  have e1 := Int.mul_ediv_add_emod (x * m) f
  have e2 := Int.emod_nonneg (x * m) (show f ≠ 0 by omega)
  have e3 := Int.emod_lt_of_pos (x * m) (show 0 < f by omega)
  generalize x * m % f = r at *
  have hq : 0 ≤ x * m / f := Int.ediv_nonneg (Int.mul_nonneg h0 h2) (by omega)
  generalize x * m / f = q at *
  have c : f * q = q * f := Int.mul_comm _ _
  have cc : ∀ a b : Int, a * f ≤ b * f → a ≤ b := fun a b h => Int.le_of_mul_le_mul_right h (by omega)
  have m1 := Int.mul_le_mul_of_nonneg_left (show m ≤ f by omega) h0
  have m2 := Int.mul_le_mul_of_nonneg_right h1 h2
  have m3 := Int.mul_nonneg (show 0 ≤ f - x by omega) (show 0 ≤ f - m by omega)
  rw [Int.sub_mul, Int.mul_sub, Int.mul_sub] at m3
  have c2 : f * m = m * f := Int.mul_comm _ _
  refine ⟨hq, cc _ _ (by omega), cc _ _ (by omega), ?_, ?_, by omega, by omega⟩
  · rcases (by omega : x - q ≤ f - m ∨ f - m + 1 ≤ x - q) with g | g
    · exact g
    · have := Int.mul_le_mul_of_nonneg_right g (show 0 ≤ f by omega)
      rw [Int.add_mul, Int.sub_mul, Int.sub_mul, Int.one_mul] at this
      omega
  · intro h; subst h
    have h5 : q * x ≤ m * x := by omega
    have h6 : (m - 1) * x < q * x := by rw [Int.sub_mul, Int.one_mul]; omega
    have a := Int.le_of_mul_le_mul_right h5 (by omega)
    have b := Int.lt_of_mul_lt_mul_right h6 (by omega)
    omega
theorem wst_pos (x f m : Int) (h0 : 0 ≤ x) (h1 : x ≤ f) : 0 ≤ wst x f m ∧ wst x f m ≤ x ∧ wst x f m ≤ max m 0 ∧ x - wst x f m ≤ max (f - max m 0) 0 ∧ (x = f → wst x f m = min f (max m 0)) := by
  unfold wst
  split
  · omega
  · split
    · omega
    · have := part_pos x f m h0 h1 (by omega) (by omega)
      omega
/-- what a step does to a coordinate -/
theorem wst_any (x f m : Int) (h1 : (x.natAbs : Int) ≤ f) : (0 ≤ x → 0 ≤ wst x f m ∧ wst x f m ≤ x) ∧ (x ≤ 0 → x ≤ wst x f m ∧ wst x f m ≤ 0) ∧ ((wst x f m).natAbs : Int) ≤ max m 0 ∧ ((x - wst x f m).natAbs : Int) ≤ max (f - max m 0) 0 ∧
    ((x.natAbs : Int) = f → ((wst x f m).natAbs : Int) = min f (max m 0) ∧ ((x - wst x f m).natAbs : Int) = max (f - max m 0) 0) := by
  rcases (by omega : 0 ≤ x ∨ 0 ≤ -x) with h | h
  · have := wst_pos x f m h (by omega)
    omega
  · have := wst_pos (-x) f m h (by omega)
    rw [wst_neg] at this
    omega
theorem vfar_step (x y m : Int) : vfar (x - wst x (vfar x y) m) (y - wst y (vfar x y) m) = max (vfar x y - max m 0) 0 ∧ vfar (wst x (vfar x y) m) (wst y (vfar x y) m) = min (vfar x y) (max m 0) := by
  obtain ⟨h1, h2, h3, h4⟩ := vfar_bd x y
  have a := wst_any x (vfar x y) m h1
  have b := wst_any y (vfar x y) m h2
  generalize vfar x y = f at *
  generalize wst x f m = p at *
  generalize wst y f m = q at *
  unfold vfar
  rcases h4 with h4 | h4
  · have := a.2.2.2.2 (by omega); omega
  · have := b.2.2.2.2 (by omega); omega
/-- on which side a product of ways lies -/
def sgz (z : Int) : Int := if z = 0 then 0 else if 0 < z then 1 else -1
def vside (ax ay bx b' px py : Int) : Int := sgz ((bx - ax) * (py - ay) - (b' - ay) * (px - ax))
theorem sgz_bd (z : Int) : -1 ≤ sgz z ∧ sgz z ≤ 1 := by unfold sgz; omega
theorem sgz_neg (z : Int) : sgz (-z) = -(sgz z) := by unfold sgz; omega
theorem vside_turn (ax ay bx b' px py : Int) : vside px py ax ay bx b' = vside ax ay bx b' px py ∧ vside bx b' px py ax ay = vside ax ay bx b' px py := by
  unfold vside
  constructor <;> congr 1 <;> grind
theorem vside_swap (ax ay bx b' px py : Int) : vside bx b' ax ay px py = -(vside ax ay bx b' px py) ∧ vside ax ay px py bx b' = -(vside ax ay bx b' px py) := by
  unfold vside
  constructor <;> rw [← sgz_neg] <;> congr 1 <;> grind
theorem vside_move (ax ay bx b' px py mx my : Int) : vside (ax + mx) (ay + my) (bx + mx) (b' + my) (px + mx) (py + my) = vside ax ay bx b' px py := by
  unfold vside; congr 1; grind
theorem vside_mirror (ax ay bx b' px py : Int) : vside (-ax) ay (-bx) b' (-px) py = -(vside ax ay bx b' px py) := by
  unfold vside; rw [← sgz_neg]; congr 1; grind
theorem vside_same (ax ay bx b' : Int) : vside ax ay ax ay bx b' = 0 ∧ vside ax ay bx b' ax ay = 0 := by
  unfold vside; constructor <;> (rw [show ∀ z : Int, sgz z = if z = 0 then 0 else if 0 < z then 1 else -1 from fun _ => rfl, if_pos (by grind)])
theorem vside_line (ax ay bx b' k : Int) : vside ax ay bx b' (ax + k * (bx - ax)) (ay + k * (b' - ay)) = 0 := by
  unfold vside sgz; rw [if_pos (by grind)]
theorem vside_left (ax ay bx b' k : Int) (h : ax ≠ bx ∨ ay ≠ b') : vside ax ay bx b' (ax + k * (bx - ax) - (b' - ay)) (ay + k * (b' - ay) + (bx - ax)) = 1 := by
  unfold vside
  rw [show (bx - ax) * (ay + k * (b' - ay) + (bx - ax) - ay) - (b' - ay) * (ax + k * (bx - ax) - (b' - ay) - ax) = (bx - ax) * (bx - ax) + (b' - ay) * (b' - ay) by grind]
  have sq : ∀ z : Int, 0 ≤ z * z ∧ (z ≠ 0 → 0 < z * z) := fun z => by
    rcases (by omega : z = 0 ∨ 0 < z ∨ 0 < -z) with rfl | h | h
    · simp
    · have := Int.mul_pos h h; omega
    · have := Int.mul_pos h h; rw [Int.neg_mul_neg] at this; omega
  have a := sq (bx - ax)
  have b := sq (b' - ay)
  unfold sgz; rw [if_neg (by omega), if_pos (by omega)]
theorem vprods (a b c d : Int) : (a * c + b * d) * (a * c + b * d) + (a * d - b * c) * (a * d - b * c) = (a * a + b * b) * (c * c + d * d) := by grind
end Go.Proofs.YtlcjkomfjgddeaaGreatDoor
namespace Go.Proofs.YtlcjkomfjgddeaaGreatDoor
open Go Go.RowKit Go.Sort
attribute [local go_sem] opLow opUpon

abbrev V (x y : Int) : Value := .agg #[.int .i64 x, .int .i64 y]
theorem W_inj {x y : Int} (h1 : hiw x = hiw y) (h2 : low x = low y) (h3 : ngw x = ngw y) : x = y := by
  have a := hilo x
  have b := hilo y
  rw [h1, h2] at a
  unfold ngw at h3
  rw [decide_eq_decide] at h3
  omega
theorem eql_W (x y : Int) (w : World) : (binOp .eql 162 (W x) (W y)).run Tryz.prog w = .ok (.bool (decide (x = y))) w := by
  by_cases h1 : hiw x = hiw y
  · by_cases h2 : low x = low y
    · by_cases h3 : ngw x = ngw y
      · have := W_inj h1 h2 h3
        subst this
        simp [go_sem]
      · have : ¬ x = y := fun e => h3 (by rw [e])
        simp [go_sem, h1, h2, h3, this]
    · have : ¬ x = y := fun e => h2 (by rw [e])
      simp [go_sem, h1, h2, this]
  · have : ¬ x = y := fun e => h1 (by rw [e])
    simp [go_sem, h1, this]
theorem eqv_W (x y : Int) (b : Bool) (h : decide (x = y) = b) (w : World) : (binOp .eql 162 (W x) (W y)).run Tryz.prog w = .ok (.bool b) w := by rw [eql_W, h]
def sgw (z : Int) : Int := if z < 0 then -1 else if z = 0 then 0 else 1
theorem lesw_is (x y : Int) (b : Bool) (h : decide ((x.natAbs : Int) < (y.natAbs : Int)) = b) (w : World) : Calls Tryz.prog 97 #[.agg #[.int .u64 (hiw x), .int .u64 (low x)], .agg #[.int .u64 (hiw y), .int .u64 (low y)]] w fun e w' => e = .returned (.bool b) ∧ Below w.heap.size w w' := by
  have h1 := less_any (hiw x) (low x) (hiw y) (low y) (low_nonneg x) (low_le x) (low_nonneg y) (low_le y) w
  have e : ltw (hiw x) (low x) (hiw y) (low y) = b := by unfold ltw; rw [hilo, hilo]; exact h
  rw [e] at h1
  exact h1
/-- how two products lie, as Side asks it -/
theorem side_cases (P Q : Int) (h : ¬ P = Q) : ∃ (s t : Int) (b c : Bool), Hid (sgw P = s) ∧ Hid (sgw Q = t) ∧ Hid (decide ((P.natAbs : Int) < (Q.natAbs : Int)) = b) ∧ ngw P = c ∧
    ((t < s ∧ sgz (P - Q) = 1) ∨ (s < t ∧ sgz (P - Q) = -1) ∨ (s = t ∧ ((b = true ∧ c = true ∧ sgz (P - Q) = 1) ∨ (b = false ∧ c = false ∧ sgz (P - Q) = 1) ∨ (b = true ∧ c = false ∧ sgz (P - Q) = -1) ∨ (b = false ∧ c = true ∧ sgz (P - Q) = -1)))) := by
  refine ⟨_, _, _, _, Lib.hid rfl, Lib.hid rfl, Lib.hid rfl, rfl, ?_⟩
  unfold sgw sgz ngw
  simp only [decide_eq_true_eq, decide_eq_false_iff_not]
  omega
/-- an int -/
def I64 (x : Int) : Prop := -9223372036854775808 ≤ x ∧ x ≤ 9223372036854775807
set_option maxRecDepth 100000 in
set_option maxHeartbeats 4000000 in
theorem vsub_any (a b c d : Int) (ha : I64 a) (hb : I64 b) (hc : I64 c) (hd : I64 d) (w : World) :
    Calls Tryz.prog 46 #[V a b, V c d] w fun e w' => e = .returned (V (sat (a - c)) (sat (b - d))) ∧ Below w.heap.size w w' := by
  obtain ⟨l0, u0⟩ := ha
  obtain ⟨l1, u1⟩ := hb
  obtain ⟨l2, u2⟩ := hc
  obtain ⟨l3, u3⟩ := hd
  go_enter Tryz.func46, Tryz.ntmps46
  go_wp2
  have o_a : w.heap.size ≤ w.heap.size := Nat.le_add_right _ 0
  have o_b : w.heap.size ≤ w.heap.size + 1 := Nat.le_add_right _ 1
  have o_r : w.heap.size ≤ w.heap.size + 1 + 1 := Nat.le_add_right _ 2
  refine wp_name (fun W => Below w.heap.size w W ∧ Bk W (w.heap.size) #[.int .i64 a, .int .i64 b] 23 ∧ Bk W (w.heap.size + 1) #[.int .i64 c, .int .i64 d] 23 ∧ Bk W (w.heap.size + 1 + 1) #[.int .i64 0, .int .i64 0] 23) ⟨by (first | (go_grown; done) | (repeat (first | assumption | (refine Below.setCell ?_ (by first | assumption | (simp; omega) | omega) _) | (refine Below.alloc ?_ (by assumption) _)))), by (repeat (first | with_reducible assumption | ((with_reducible refine Bk.at_ ?_); first | rfl | (simp; done)) | with_reducible apply Bk.alloc)), by (repeat (first | with_reducible assumption | ((with_reducible refine Bk.at_ ?_); first | rfl | (simp; done)) | with_reducible apply Bk.alloc)), by (repeat (first | with_reducible assumption | ((with_reducible refine Bk.at_ ?_); first | rfl | (simp; done)) | with_reducible apply Bk.alloc))⟩ ?_
  rintro W1 ⟨hB, B_a, B_b, B_r⟩
  have hS := hB.size
  have k_a_0 := cell_regrown (B_a.cell (v := .int .i64 a) 0 rfl)
  have k_a_1 := cell_regrown (B_a.cell (v := .int .i64 b) 1 rfl)
  have k_b_0 := cell_regrown (B_b.cell (v := .int .i64 c) 0 rfl)
  have k_b_1 := cell_regrown (B_b.cell (v := .int .i64 d) 1 rfl)
  have k_r_0 := cell_regrown (B_r.cell (v := .int .i64 0) 0 rfl)
  have k_r_1 := cell_regrown (B_r.cell (v := .int .i64 0) 1 rfl)
  refine wp_region_low 11 (by kernel_rfl) (by kernel_rfl) ?_
  simp only [List.take, List.drop]
  iterate 11 (refine low_step (fun K hK => ?_); go_simp; first | (refine hK _ ?_; clear hK K) | (apply Exists.intro; refine ⟨fun p => ?_, hK _ ?_⟩; (first | with_reducible exact sub_any _ _ (by assumption) (by assumption) (by assumption) (by assumption) _); clear hK K))
  refine low_nil ?_
  intro W2 hC
  have hb := hC.1
  clear k_a_0 k_a_1 k_b_0 k_b_1 k_r_0 k_r_1
  replace B_a := B_a.below hb
  replace B_b := B_b.below hb
  replace B_r := B_r.below hb
  obtain ⟨hB', hS'⟩ := below_c (w := w) hb hB
  clear hC hb hB hS
  have hB := hB'; have hS := hS'; clear hB' hS'
  have c_r_0 := B_r.cell (v := .int .i64 0) 0 rfl
  have c_r_1 := B_r.cell (v := .int .i64 0) 1 rfl
  have lt_r := B_r.lt
  have f_r_0 := B_r.free 0
  have f_r_1 := B_r.free 1
  go_wp2
  refine post_name (fun W => Below w.heap.size w W ∧ Bk W (w.heap.size + 1 + 1) #[.int .i64 (sat (a - c)), .int .i64 (sat (b - d))] 23) ⟨(Below.setCell (p := ⟨w.heap.size + 1 + 1, 1, none⟩) (Below.setCell (p := ⟨w.heap.size + 1 + 1, 0, none⟩) hB o_r _) o_r _), (Bk.put (Bk.put B_r 0 _) 1 _)⟩ ?_
  clear c_r_0 c_r_1 lt_r f_r_0 f_r_1
  clear hB hS B_r
  rintro W3 ⟨hB, B_r⟩
  have hS := hB.size
  have c_r_0 := B_r.cell (v := .int .i64 (sat (a - c))) 0 rfl
  have c_r_1 := B_r.cell (v := .int .i64 (sat (b - d))) 1 rfl
  have lt_r := B_r.lt
  refine bodyPost_ret (v := V (sat (a - c)) (sat (b - d))) (by simp [results, Tryz.results46, go_sem, c_r_0, c_r_1]; try rfl) rfl ⟨rfl, by (first | (go_grown; done) | (repeat (first | assumption | (refine Below.setCell ?_ (by first | assumption | (simp; omega) | omega) _) | (refine Below.alloc ?_ (by assumption) _))))⟩
end Go.Proofs.YtlcjkomfjgddeaaGreatDoor
