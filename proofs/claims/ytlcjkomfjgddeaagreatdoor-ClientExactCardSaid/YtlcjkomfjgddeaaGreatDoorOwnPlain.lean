/- The plain law of ClientOwn. -/
import Derived.Test.YtlcjkomfjgddeaaGreatDoorStepsPlain
import Derived.Test.YtlcjkomfjgddeaaGreatDoorPart
set_option linter.unusedVariables false
set_option linter.unusedSimpArgs false
namespace Go.Proofs.YtlcjkomfjgddeaaGreatDoor
open Go Go.RowKit Go.Sort

theorem predR_move (W : Wld) (id gx gy : Int) (x : Inp) : predR W id gx gy x = predR W id gx gy ⟨0, 0, 0, x.mx, x.my, false, 0, 0, 0, 0⟩ := rfl
theorem fits_owner {x : Cmp} (h : fits x = true) (hk : x.k = 4) : x.b = 0 ∧ x.c = 0 ∧ x.d = 0 := by
  obtain ⟨k, a, b, c, d⟩ := x
  simp only at hk
  subst hk
  simp only [fits, inLim, Cmp.v, Bool.and_eq_true, decide_eq_true_eq] at h
  obtain ⟨⟨⟨h1, h2⟩, ⟨⟨⟨h3, h4⟩, h5⟩, h6⟩⟩, h7⟩ := h
  have e2 : lim 4 1 = (0, 0) := by decide
  have e3 : lim 4 2 = (0, 0) := by decide
  have e4 : lim 4 3 = (0, 0) := by decide
  rw [e2] at h4
  rw [e3] at h5
  rw [e4] at h6
  simp only at h4 h5 h6 ⊢
  omega
/-- the component of a kind of an entity of a valid world -/
theorem getM_at {W : Wld} (hV : Valid W) {i : Nat} {e : Ent} (he : W.es[i]? = some e) (kind : Int) : getM W e.id kind = e.cs.find? (fun x => decide (x.k = kind)) := by
  have hi := (List.getElem?_eq_some_iff.1 he).1
  have hei := (List.getElem?_eq_some_iff.1 he).2
  have h1 : W.es.find? (fun y => decide (y.id = e.id)) = some e := by
    rw [List.find?_eq_some_iff_getElem]
    refine ⟨by simp, i, hi, hei, fun j hj => ?_⟩
    have hr := rises_lt hV.rises (a := j) (b := i) hj (by simpa using hi)
    rw [List.getD, List.getD, List.getElem?_map, List.getElem?_map, he, List.getElem?_eq_getElem (by omega)] at hr
    simp at hr
    simp
    omega
  unfold getM
  rw [h1]
  rfl
/-- whether an entity is the client's, as store.Get says it -/
def mineG (id : Int) (o : Option Cmp) : Bool := match o with
  | some c => decide (c.a = id)
  | none => false
theorem mine_own {e : Ent} (hR : Right e) (id : Int) : mineG id (e.cs.find? (fun x => decide (x.k = 4))) = ownB id e := by
  have hfit : ∀ x ∈ e.cs, fits x = true := hR.2.2
  rcases hf : e.cs.find? (fun x => decide (x.k = 4)) with _ | o
  · have hn : ∀ x ∈ e.cs, ¬ x.k = 4 := fun x hx => by
      have := List.find?_eq_none.1 hf x hx
      simpa using this
    rw [hf]
    symm
    show ownB id e = false
    unfold ownB
    rw [List.any_eq_false]
    intro x hx
    rw [eqC_iff]
    rintro rfl
    exact hn _ hx rfl
  · have hk : o.k = 4 := by have := List.find?_some hf; simpa using this
    have hm : o ∈ e.cs := List.mem_of_find?_eq_some hf
    obtain ⟨h1, h2, h3⟩ := fits_owner (hfit o hm) hk
    rw [hf]
    show decide (o.a = id) = ownB id e
    by_cases ha : o.a = id
    · rw [decide_eq_true ha]
      symm
      unfold ownB
      rw [List.any_eq_true]
      refine ⟨o, hm, (eqC_iff _ _).2 ?_⟩
      obtain ⟨k, a, b, c, d⟩ := o
      simp only at hk ha h1 h2 h3
      subst hk ha h1 h2 h3
      rfl
    · rw [decide_eq_false ha]
      symm
      unfold ownB
      rw [List.any_eq_false]
      intro x hx
      rw [eqC_iff]
      rintro rfl
      obtain ⟨i, hi⟩ := List.mem_iff_getElem?.1 hx
      obtain ⟨j, hj⟩ := List.mem_iff_getElem?.1 hm
      have hil := (List.getElem?_eq_some_iff.1 hi).1
      have hjl := (List.getElem?_eq_some_iff.1 hj).1
      have gi : (e.cs.map Cmp.k).getD i 0 = 4 := by rw [List.getD, List.getElem?_map, hi]; rfl
      have gj : (e.cs.map Cmp.k).getD j 0 = 4 := by rw [List.getD, List.getElem?_map, hj]; simpa using hk
      have hij : i = j := by
        rcases Nat.lt_trichotomy i j with h | h | h
        · have := rises_lt hR.rises h (by simpa using hjl); omega
        · exact h
        · have := rises_lt hR.rises h (by simpa using hil); omega
      subst hij
      rw [hi] at hj
      cases hj
      exact ha rfl
/-- how many of the first entities are the client's -/
def cntO (id : Int) (es : List Ent) (i : Nat) : Nat := ((es.take i).filter (ownB id)).length
theorem cntO_zero (id : Int) (es : List Ent) : cntO id es 0 = 0 := by unfold cntO; simp
theorem cntO_all (W : Wld) (id : Int) : cntO id W.es W.es.length = (ownM W id).length := by unfold cntO ownM; rw [List.take_length, List.length_map]
theorem cntO_step {id : Int} {es : List Ent} {i : Nat} {e : Ent} (h : es[i]? = some e) : cntO id es (i + 1) = if ownB id e = true then cntO id es i + 1 else cntO id es i := by
  unfold cntO
  rw [take_succ h, List.filter_append, List.filter_cons]
  by_cases ho : ownB id e = true
  · rw [if_pos ho, if_pos ho]; simp
  · rw [if_neg ho, if_neg ho]; simp
theorem own_split (W : Wld) (id : Int) (i : Nat) : ownM W id = ((W.es.take i).filter (ownB id)).map Ent.id ++ ((W.es.drop i).filter (ownB id)).map Ent.id := by
  unfold ownM
  rw [← List.map_append, ← List.filter_append, List.take_append_drop]
/-- what the list of the client's entities says at its place -/
theorem own_at {W : Wld} (hV : Valid W) (id : Int) {i : Nat} {e : Ent} (he : W.es[i]? = some e) : (ownB id e = true → (ownM W id)[cntO id W.es i]? = some e.id) ∧ (ownB id e = false → ∀ v, (ownM W id)[cntO id W.es i]? = some v → ¬ v = e.id) := by
  have hd : W.es.drop i = e :: W.es.drop (i + 1) := drop_at he
  have hidx : (ownM W id)[cntO id W.es i]? = (((W.es.drop i).filter (ownB id)).map Ent.id)[0]? := by
    rw [own_split W id i, List.getElem?_append_right (by unfold cntO; simp)]
    unfold cntO
    simp
  rw [hidx, hd, List.filter_cons]
  constructor
  · intro ho
    rw [if_pos ho]; rfl
  · intro ho v hv hve
    rw [if_neg (by rw [ho]; decide)] at hv
    rw [List.getElem?_map] at hv
    obtain ⟨y, hy, hyv⟩ := Option.map_eq_some_iff.1 hv
    have hym := (List.mem_filter.1 (List.mem_iff_getElem?.2 ⟨0, hy⟩)).1
    obtain ⟨j, hj⟩ := List.mem_iff_getElem?.1 hym
    rw [List.getElem?_drop] at hj
    have hjl := (List.getElem?_eq_some_iff.1 hj).1
    have hr := rises_lt hV.rises (a := i) (b := i + 1 + j) (by omega) (by simpa using hjl)
    rw [List.getD, List.getD, List.getElem?_map, List.getElem?_map, he, hj] at hr
    simp at hr
    omega
theorem setK_filter {k : Int} {f : Cmp → Cmp} {p : Cmp → Bool} (hf : ∀ x, (f x).k = x.k) (hp : ∀ x, x.k = k → p x = false) (cs : List Cmp) : (setK k f cs).filter p = cs.filter p := by
  unfold setK
  split
  · rename_i x hx
    have hk := findIdx_key hx
    have hl := (List.getElem?_eq_some_iff.1 hx).1
    have e1 : cs = cs.take (cs.findIdx (keyC k)) ++ x :: cs.drop (cs.findIdx (keyC k) + 1) := by
      rw [← drop_at hx, List.take_append_drop]
    have e2 : cs.set (cs.findIdx (keyC k)) (f x) = cs.take (cs.findIdx (keyC k)) ++ f x :: cs.drop (cs.findIdx (keyC k) + 1) := by
      rw [List.set_eq_take_append_cons_drop, if_pos hl]
    rw [e2]
    conv => rhs; rw [e1]
    rw [List.filter_append, List.filter_append, List.filter_cons, List.filter_cons, hp x hk, hp (f x) ((hf x).trans hk), if_neg (by decide), if_neg (by decide)]
  · rfl
theorem keep_pos (x : Cmp) (h : x.k = 1) : inM 2040 x = false := by unfold inM; rw [h]; decide
theorem keep_vel (x : Cmp) (h : x.k = 2) : inM 2040 x = false := by unfold inM; rw [h]; decide
theorem backE_filter (L : List Bdy) (e : Ent) : (backE L e).cs.filter (inM 2040) = e.cs.filter (inM 2040) := by
  have s1 : ∀ X Y cs, (setK 1 (putXY X Y) cs).filter (inM 2040) = cs.filter (inM 2040) := fun X Y cs => setK_filter (f := putXY X Y) (fun _ => rfl) keep_pos cs
  have s2 : ∀ X Y cs, (setK 2 (putXY X Y) cs).filter (inM 2040) = cs.filter (inM 2040) := fun X Y cs => setK_filter (f := putXY X Y) (fun _ => rfl) keep_vel cs
  unfold backE
  split
  · split
    · simp only; rw [s2, s1]
    · rfl
  · split
    · rfl
    · split
      · simp only; rw [s1]
      · simp only; rw [s2, s1]
theorem still_filter {id X Y : Int} {e : Ent} (ho : ownB id e = true) : (stillE id X Y e).cs.filter (inM 2040) = e.cs.filter (inM 2040) := by
  have : (stillE id X Y e).cs = setK 2 (putXY X Y) e.cs := by
    unfold stillE setK
    split
    · rename_i h
      rw [h]
    · rename_i v h
      rw [if_pos ho, h]
  rw [this]
  exact setK_filter (f := putXY X Y) (fun _ => rfl) keep_vel e.cs
/-- an entity of a predicted world -/
theorem pred_at {W : Wld} (hV : Valid W) (id gx gy : Int) (x : Inp) {i : Nat} {e : Ent} (he : W.es[i]? = some e) :
    ∃ y, (predW W id gx gy x).es[i]? = some y ∧ y.id = e.id ∧ (ownB id e = false → y = e) ∧ y.cs.filter (inM 2040) = e.cs.filter (inM 2040) ∧ y.cs.map Cmp.k = e.cs.map Cmp.k := by
  obtain ⟨L, hL⟩ : ∃ L, L = stepB gx gy (bodiesM (W.es.map (stillE id (wst x.mx (vfar x.mx x.my) 64) (wst x.my (vfar x.mx x.my) 64)))) (bodiesM (W.es.map (stillE id (wst x.mx (vfar x.mx x.my) 64) (wst x.my (vfar x.mx x.my) 64)))).length := ⟨_, rfl⟩
  refine ⟨takeE id e (backE L (stillE id (wst x.mx (vfar x.mx x.my) 64) (wst x.my (vfar x.mx x.my) 64) e)), ?_, ?_⟩
  · unfold predW predM worldM
    simp only
    rw [← hL, List.getElem?_zipWith, he, List.getElem?_map, List.getElem?_map, he]
    rfl
  · unfold takeE
    by_cases ho : ownB id e = true
    · rw [if_pos ho]
      refine ⟨rfl, fun q => (by rw [ho] at q; cases q), ?_, ?_⟩
      · rw [backE_filter, still_filter ho]
      · have h1 : ∀ L, (backE L (stillE id (wst x.mx (vfar x.mx x.my) 64) (wst x.my (vfar x.mx x.my) 64) e)).cs.map Cmp.k = (stillE id (wst x.mx (vfar x.mx x.my) 64) (wst x.my (vfar x.mx x.my) 64) e).cs.map Cmp.k := fun L => by
          unfold backE
          split
          · split
            · simp only; rw [setK_xy, setK_xy]
            · rfl
          · split
            · rfl
            · split
              · simp only; rw [setK_xy]
              · simp only; rw [setK_xy, setK_xy]
        show (backE L _).cs.map Cmp.k = _
        rw [h1, stillE_kinds ho]
    · rw [if_neg ho]
      exact ⟨rfl, fun _ => rfl, rfl, rfl⟩
theorem pred_len (W : Wld) (id gx gy : Int) (x : Inp) : (predW W id gx gy x).es.length = W.es.length := by
  unfold predW predM worldM
  simp
end Go.Proofs.YtlcjkomfjgddeaaGreatDoor
