/- What ClientExact needs: the plain law, store.Set, store.Unset, limited, and the contracts in the walk's own spelling. -/
import Derived.Test.YtlcjkomfjgddeaaGreatDoorOwnPlain
import Derived.Test.YtlcjkomfjgddeaaGreatDoorM41
import Derived.Test.YtlcjkomfjgddeaaGreatDoorM11
import Derived.Test.YtlcjkomfjgddeaaGreatDoorM42
import Derived.Test.YtlcjkomfjgddeaaGreatDoorM39
set_option linter.unusedVariables false
set_option linter.unusedSimpArgs false
namespace Go.Proofs.YtlcjkomfjgddeaaGreatDoor
open Go Go.RowKit Go.Sort
/-! ExactPlain -/

theorem find_idx {α : Type} (p : α → Bool) : ∀ cs : List α, cs[cs.findIdx p]? = cs.find? p
  | [] => rfl
  | x :: cs => by
    rw [List.findIdx_cons, List.find?_cons]
    rcases hp : p x with _ | _
    · simp only [cond_false, List.getElem?_cons_succ]
      exact find_idx p cs
    · rfl
theorem keyC_fun (k : Int) : (fun x : Cmp => decide (x.k = k)) = keyC k := by funext x; rfl
/-- an entity without its speed -/
def delE (e : Ent) : Ent := ⟨e.id, e.cs.eraseIdx (e.cs.findIdx (keyC 2))⟩
def dropE (id : Int) (e : Ent) : Ent := if ownB id e = true then e else delE e
/-- the world in which those of the first i entities that are not the client's have lost their speeds -/
def dropW (W : Wld) (id : Int) (i : Nat) : Wld := ⟨W.t, headL (dropE id) W.es i⟩
theorem delE_none {e : Ent} (h : e.cs.find? (keyC 2) = none) : delE e = e := by
  unfold delE
  have : e.cs.findIdx (keyC 2) = e.cs.length := List.findIdx_eq_length.2 (fun x hx => by
    have := List.find?_eq_none.1 h x hx
    simpa using this)
  rw [this, List.eraseIdx_of_length_le (Nat.le_refl _)]
theorem pw_kinds {e : Ent} (hR : Right e) : (e.cs.map Cmp.k).Pairwise (· < ·) := rises_pw hR.rises
theorem delE_right {e : Ent} (hR : Right e) : Right (delE e) := by
  refine ⟨hR.1, ?_, fun x hx => hR.2.2 x (List.mem_of_mem_eraseIdx hx)⟩
  exact pw_rises (List.Pairwise.sublist ((List.eraseIdx_sublist _ _).map _) (pw_kinds hR))
theorem delE_vel {e : Ent} (hR : Right e) : (delE e).cs.find? (keyC 2) = none := by
  rw [List.find?_eq_none]
  intro x hx hk
  have hk2 : x.k = 2 := by unfold keyC at hk; simpa using hk
  obtain ⟨j, hj⟩ := List.mem_iff_getElem?.1 hx
  unfold delE at hj
  simp only at hj
  rw [List.getElem?_eraseIdx] at hj
  have hrise := hR.rises
  have key : ∀ i : Nat, e.cs[i]? = some x → i = e.cs.findIdx (keyC 2) := fun i hi => by
    have hil := (List.getElem?_eq_some_iff.1 hi).1
    have hle : e.cs.findIdx (keyC 2) ≤ i := by
      rcases Nat.lt_or_ge i (e.cs.findIdx (keyC 2)) with h | h
      · have := List.not_of_lt_findIdx h
        rw [(List.getElem?_eq_some_iff.1 hi).2] at this
        exact absurd hk (by simpa using this)
      · exact h
    rcases Nat.lt_or_ge (e.cs.findIdx (keyC 2)) i with h | h
    · exfalso
      have hfl : e.cs.findIdx (keyC 2) < e.cs.length := by omega
      have hf := findIdx_key (k := 2) (cs := e.cs) (x := e.cs[e.cs.findIdx (keyC 2)]) (List.getElem?_eq_getElem hfl)
      have hr := rises_lt hrise (a := e.cs.findIdx (keyC 2)) (b := i) h (by simpa using hil)
      rw [List.getD, List.getD, List.getElem?_map, List.getElem?_map, hi, List.getElem?_eq_getElem hfl] at hr
      simp only [Option.map_some, Option.getD_some, hf, hk2] at hr
      omega
    · omega
  split at hj
  · rename_i h
    have := key j hj
    omega
  · rename_i h
    have := key (j + 1) hj
    omega
theorem dropE_right {id : Int} {e : Ent} (hR : Right e) : Right (dropE id e) := by
  unfold dropE
  split
  · exact hR
  · exact delE_right hR
theorem dropE_id (id : Int) (e : Ent) : (dropE id e).id = e.id := by
  unfold dropE delE
  split <;> rfl
theorem headL_get (f : Ent → Ent) (es : List Ent) (k i : Nat) : (headL f es k)[i]? = if i < k then (es[i]?).map f else es[i]? := by
  unfold headL
  by_cases hi : i < k
  · rw [if_pos hi]
    rcases he : es[i]? with _ | e
    · have hl : es.length ≤ i := by rw [List.getElem?_eq_none_iff] at he; exact he
      rw [List.getElem?_eq_none]
      · rfl
      · simp; omega
    · have hl := (List.getElem?_eq_some_iff.1 he).1
      rw [List.getElem?_append_left (by simp; omega), List.getElem?_map, List.getElem?_take, if_pos hi, he]
  · rw [if_neg hi]
    by_cases hl : i < es.length
    · rw [List.getElem?_append_right (by simp; omega), List.getElem?_drop]
      congr 1
      simp
      omega
    · rw [List.getElem?_eq_none (by simp; omega), List.getElem?_eq_none (by omega)]
theorem headL_ids (id : Int) (es : List Ent) (k : Nat) : (headL (dropE id) es k).map Ent.id = es.map Ent.id := by
  apply List.ext_getElem?
  intro i
  rw [List.getElem?_map, List.getElem?_map, headL_get]
  split
  · rcases es[i]? with _ | e
    · rfl
    · simp [dropE_id]
  · rfl
theorem drop_valid {W : Wld} (hV : Valid W) (id : Int) (i : Nat) : Valid (dropW W id i) := by
  refine ⟨hV.1, ?_, ?_, ?_⟩
  · show (headL (dropE id) W.es i).length ≤ 64
    rw [headL_len]; exact hV.2.1
  · show Rises ((headL (dropE id) W.es i).map Ent.id)
    rw [headL_ids]; exact hV.2.2.1
  · intro e he
    obtain ⟨j, hj⟩ := List.mem_iff_getElem?.1 (show e ∈ headL (dropE id) W.es i from he)
    rw [headL_get] at hj
    split at hj
    · rcases hw : W.es[j]? with _ | e'
      · rw [hw] at hj; cases hj
      · rw [hw] at hj
        injection hj with hj
        subst hj
        exact dropE_right (hV.2.2.2 e' (List.mem_iff_getElem?.2 ⟨j, hw⟩))
    · exact hV.2.2.2 e (List.mem_iff_getElem?.2 ⟨j, hj⟩)
theorem dropW_at (W : Wld) (id : Int) {i : Nat} {e : Ent} (he : W.es[i]? = some e) : (dropW W id i).es[i]? = some e := headL_at _ he
theorem dropW_own {W : Wld} {id : Int} {i : Nat} {e : Ent} (he : W.es[i]? = some e) (ho : ownB id e = true) : dropW W id (i + 1) = dropW W id i := by
  unfold dropW
  rw [headL_stay _ he (by unfold dropE; rw [if_pos ho])]
theorem dropW_none {W : Wld} {id : Int} {i : Nat} {e : Ent} (he : W.es[i]? = some e) (hn : e.cs.find? (keyC 2) = none) : dropW W id (i + 1) = dropW W id i := by
  unfold dropW
  rw [headL_stay _ he (by unfold dropE; split; rfl; exact delE_none hn)]
theorem dropW_some {W : Wld} {id : Int} {i : Nat} {e : Ent} (he : W.es[i]? = some e) (ho : ownB id e = false) : dropW W id (i + 1) = ⟨W.t, (dropW W id i).es.set i (delE e)⟩ := by
  unfold dropW
  rw [← headL_set _ he]
  unfold dropE
  rw [ho, if_neg (by decide)]
/-- where nothing but the client's entities has a speed -/
def OwnVel (id : Int) (W : Wld) : Prop := ∀ e ∈ W.es, ownB id e = false → e.cs.find? (keyC 2) = none
theorem ownB_del {id : Int} {e : Ent} (h : ownB id (delE e) = true) : ownB id e = true := by
  unfold ownB at h ⊢
  rw [List.any_eq_true] at h ⊢
  obtain ⟨x, hx, he⟩ := h
  exact ⟨x, List.mem_of_mem_eraseIdx hx, he⟩
theorem dropW_vel {W : Wld} (hV : Valid W) (id : Int) : OwnVel id (dropW W id W.es.length) := by
  intro e he ho
  have he' : e ∈ W.es.map (dropE id) := by
    have h : e ∈ headL (dropE id) W.es W.es.length := he
    rw [headL_all] at h
    exact h
  obtain ⟨e', hm, rfl⟩ := List.mem_map.1 he'
  unfold dropE at ho ⊢
  split
  · rename_i h
    rw [if_pos h, h] at ho
    cases ho
  · exact delE_vel (hV.2.2.2 e' hm)
/-- an entity with another speed -/
def mvE (X Y : Int) (e : Ent) : Ent := ⟨e.id, setK 2 (putXY X Y) e.cs⟩
/-- the world in which the entities of some numbers have another speed -/
def mvW (W : Wld) (X Y : Int) (ids : List Int) : Wld := ⟨W.t, W.es.map (fun e => if e.id ∈ ids then mvE X Y e else e)⟩
theorem mvE_none {X Y : Int} {e : Ent} (h : e.cs.find? (keyC 2) = none) : mvE X Y e = e := by
  unfold mvE setK
  rw [find_idx, h]
theorem mvE_some {X Y : Int} {e : Ent} {v : Cmp} (h : e.cs.find? (keyC 2) = some v) : mvE X Y e = ⟨e.id, e.cs.set (e.cs.findIdx (keyC 2)) (putXY X Y v)⟩ := by
  unfold mvE setK
  rw [find_idx, h]
theorem mvE_right {X Y : Int} {e : Ent} (hX : -4096 ≤ X ∧ X ≤ 4096) (hY : -4096 ≤ Y ∧ Y ≤ 4096) (hR : Right e) : Right (mvE X Y e) := by
  refine ⟨hR.1, ?_, setK_fits (k := 2) (f := putXY X Y) hR.2.2 (fun x hx hk => fits_put2 hx hk hX hY)⟩
  show Rises ((setK 2 (putXY X Y) e.cs).map Cmp.k)
  rw [setK_xy]; exact hR.2.1
theorem mvW_ids (W : Wld) (X Y : Int) (ids : List Int) : (mvW W X Y ids).es.map Ent.id = W.es.map Ent.id := by
  unfold mvW
  simp only [List.map_map]
  apply List.map_congr_left
  intro e _
  simp only [Function.comp]
  split <;> rfl
theorem mv_valid {W : Wld} {X Y : Int} (hX : -4096 ≤ X ∧ X ≤ 4096) (hY : -4096 ≤ Y ∧ Y ≤ 4096) (hV : Valid W) (ids : List Int) : Valid (mvW W X Y ids) := by
  refine ⟨hV.1, ?_, by rw [mvW_ids]; exact hV.2.2.1, ?_⟩
  · show (W.es.map _).length ≤ 64
    rw [List.length_map]; exact hV.2.1
  · intro e he
    obtain ⟨e', hm, rfl⟩ := List.mem_map.1 (show e ∈ W.es.map _ from he)
    split
    · exact mvE_right hX hY (hV.2.2.2 e' hm)
    · exact hV.2.2.2 e' hm
theorem mvW_nil (W : Wld) (X Y : Int) : mvW W X Y [] = W := by
  unfold mvW
  obtain ⟨t, es⟩ := W
  simp
theorem own_pw {W : Wld} (hV : Valid W) (id : Int) : (ownM W id).Pairwise (· < ·) := by
  unfold ownM
  exact List.Pairwise.sublist (List.Sublist.map _ List.filter_sublist) (rises_pw hV.rises)
/-- the entity that the client's list names -/
theorem own_ent {W : Wld} {id v : Int} {j : Nat} (h : (ownM W id)[j]? = some v) : ∃ (i : Nat) (e : Ent), W.es[i]? = some e ∧ e.id = v ∧ ownB id e = true := by
  have hm : v ∈ ownM W id := List.mem_iff_getElem?.2 ⟨j, h⟩
  unfold ownM at hm
  obtain ⟨e, he, hv⟩ := List.mem_map.1 hm
  obtain ⟨h1, h2⟩ := List.mem_filter.1 he
  obtain ⟨i, hi⟩ := List.mem_iff_getElem?.1 h1
  exact ⟨i, e, hi, hv, h2⟩
theorem own_fresh {W : Wld} (hV : Valid W) {id v : Int} {j : Nat} (h : (ownM W id)[j]? = some v) : ¬ v ∈ (ownM W id).take j := by
  intro hm
  obtain ⟨k, hk⟩ := List.mem_iff_getElem?.1 hm
  rw [List.getElem?_take] at hk
  split at hk
  · rename_i hlt
    have hp := List.pairwise_iff_getElem.1 (own_pw hV id) k j (List.getElem?_eq_some_iff.1 hk).1 (List.getElem?_eq_some_iff.1 h).1 hlt
    rw [(List.getElem?_eq_some_iff.1 hk).2, (List.getElem?_eq_some_iff.1 h).2] at hp
    omega
  · cases hk
theorem ent_inj {W : Wld} (hV : Valid W) {i t : Nat} {e f : Ent} (he : W.es[i]? = some e) (hf : W.es[t]? = some f) (h : e.id = f.id) : i = t := by
  have hil := (List.getElem?_eq_some_iff.1 he).1
  have htl := (List.getElem?_eq_some_iff.1 hf).1
  rcases Nat.lt_trichotomy i t with q | q | q
  · have := rises_lt hV.rises q (by simpa using htl)
    rw [List.getD, List.getD, List.getElem?_map, List.getElem?_map, he, hf] at this
    simp at this; omega
  · exact q
  · have := rises_lt hV.rises q (by simpa using hil)
    rw [List.getD, List.getD, List.getElem?_map, List.getElem?_map, he, hf] at this
    simp at this; omega
theorem mvW_at {W : Wld} (hV : Valid W) {X Y id : Int} {i j : Nat} {e : Ent} (h : (ownM W id)[j]? = some e.id) (he : W.es[i]? = some e) : (mvW W X Y ((ownM W id).take j)).es[i]? = some e := by
  unfold mvW
  simp only [List.getElem?_map, he, Option.map_some]
  rw [if_neg (own_fresh hV h)]
theorem mvW_set {W : Wld} (hV : Valid W) {X Y id : Int} {i j : Nat} {e : Ent} (h : (ownM W id)[j]? = some e.id) (he : W.es[i]? = some e) : mvW W X Y ((ownM W id).take (j + 1)) = ⟨W.t, (mvW W X Y ((ownM W id).take j)).es.set i (mvE X Y e)⟩ := by
  have hil := (List.getElem?_eq_some_iff.1 he).1
  unfold mvW
  congr 1
  apply List.ext_getElem?
  intro t
  rw [take_succ h, List.getElem?_map]
  by_cases hit : i = t
  · subst hit
    rw [List.getElem?_set_self (by simpa using hil), he]
    simp
  · rw [List.getElem?_set_ne hit, List.getElem?_map]
    rcases hf : W.es[t]? with _ | f
    · rfl
    · have hne : ¬ f.id = e.id := fun q => hit (ent_inj hV he hf q.symm)
      simp only [Option.map_some, List.mem_append, List.mem_singleton]
      congr 1
      by_cases hm : f.id ∈ (ownM W id).take j
      · rw [if_pos hm, if_pos (.inl hm)]
      · rw [if_neg hm, if_neg (by intro q; rcases q with q | q; exact hm q; exact hne q)]
theorem mvW_stay {W : Wld} (hV : Valid W) {X Y id : Int} {i j : Nat} {e : Ent} (h : (ownM W id)[j]? = some e.id) (he : W.es[i]? = some e) (hn : e.cs.find? (keyC 2) = none) : mvW W X Y ((ownM W id).take (j + 1)) = mvW W X Y ((ownM W id).take j) := by
  rw [mvW_set hV h he, mvE_none hn, set_self (mvW_at hV h he)]
  rfl
theorem mvW_put {W : Wld} (hV : Valid W) {X Y id : Int} {i j : Nat} {e : Ent} {v : Cmp} (h : (ownM W id)[j]? = some e.id) (he : W.es[i]? = some e) (hv : e.cs.find? (keyC 2) = some v) : mvW W X Y ((ownM W id).take (j + 1)) = ⟨W.t, (mvW W X Y ((ownM W id).take j)).es.set i ⟨e.id, e.cs.set (e.cs.findIdx (keyC 2)) (putXY X Y v)⟩⟩ := by
  rw [mvW_set hV h he, mvE_some hv]
theorem stillE_own {id X Y : Int} {e : Ent} (ho : ownB id e = true) : stillE id X Y e = mvE X Y e := by
  unfold stillE mvE setK
  split
  · rename_i h; rw [h]
  · rename_i v h; rw [if_pos ho, h]
theorem stillE_other {id X Y : Int} {e : Ent} (hn : e.cs.find? (keyC 2) = none) : stillE id X Y e = e := by
  unfold stillE
  rw [find_idx, hn]
theorem mvW_all {W : Wld} (hV : Valid W) {id : Int} (ho : OwnVel id W) (X Y : Int) : mvW W X Y (ownM W id) = ⟨W.t, W.es.map (stillE id X Y)⟩ := by
  unfold mvW
  congr 1
  apply List.map_congr_left
  intro e he
  rcases hb : ownB id e with _ | _
  · rw [if_neg, stillE_other (ho e he hb)]
    intro hm
    obtain ⟨j, hj⟩ := List.mem_iff_getElem?.1 hm
    obtain ⟨i, f, hf, hid, hfo⟩ := own_ent hj
    obtain ⟨t, ht⟩ := List.mem_iff_getElem?.1 he
    obtain rfl := ent_inj hV hf ht hid
    rw [hf] at ht
    cases ht
    rw [hb] at hfo
    cases hfo
  · rw [if_pos, stillE_own hb]
    unfold ownM
    exact List.mem_map.2 ⟨e, List.mem_filter.2 ⟨he, hb⟩, rfl⟩
/-- a body that stays is where it was -/
theorem moveB_fixed {l : List Bdy} {k t : Nat} {b o : Bdy} {gx gy : Int} (hk : l[k]? = some b) (ht : l[t]? = some o) (ho : o.fixed = true) : (moveB l k b gx gy)[t]? = some o := by
  unfold moveB
  split
  · exact ht
  · rename_i hf
    have hne : ¬ k = t := by
      rintro rfl
      rw [hk] at ht
      cases ht
      exact hf ho
    rw [List.getElem?_set_ne hne, List.getElem?_set_ne hne]
    exact ht
theorem stepB_fixed {l : List Bdy} {t : Nat} {o : Bdy} {gx gy : Int} (ht : l[t]? = some o) (ho : o.fixed = true) : ∀ k, (stepB gx gy l k)[t]? = some o
  | 0 => ht
  | k + 1 => by
    have ih := stepB_fixed (gx := gx) (gy := gy) ht ho k
    unfold stepB
    split
    · rename_i b hb
      exact moveB_fixed hb ih ho
    · exact ih
theorem bodyM_still {e : Ent} {o : Bdy} (h : bodyM e = some o) (hn : e.cs.find? (keyC 2) = none) : o.fixed = true ∧ o.id = e.id ∧ ∃ p, e.cs.find? (keyC 1) = some p ∧ o.x = p.a ∧ o.y = p.b := by
  unfold bodyM at h
  rw [hn] at h
  split at h
  · rename_i h3; cases h3
  · rename_i p b h1 h2 h3
    injection h with h
    subst h
    exact ⟨rfl, rfl, p, h1, rfl, rfl⟩
  · cases h
theorem putXY_self (p : Cmp) : putXY p.a p.b p = p := rfl
theorem setK_same {k : Int} {cs : List Cmp} {p : Cmp} (h : cs.find? (keyC k) = some p) : setK k (putXY p.a p.b) cs = cs := by
  unfold setK
  rw [find_idx, h]
  simp only
  rw [putXY_self]
  exact set_self (by rw [find_idx]; exact h)
/-- an entity without a speed is as it was behind a step -/
theorem backE_still {gx gy : Int} {es : List Ent} (hid : ∀ e ∈ es, 1 ≤ e.id ∧ e.id ≤ 65536) (hfit : ∀ e ∈ es, ∀ x ∈ e.cs, fits x = true) (hr : Rises (es.map Ent.id)) {e : Ent} (he : e ∈ es) (hn : e.cs.find? (keyC 2) = none) :
    backE (stepB gx gy (bodiesM es) (bodiesM es).length) e = e := by
  have hok : ∀ b ∈ bodiesM es, okBdy b := fun b hb => by
    obtain ⟨e, he, hm⟩ := List.mem_filterMap.1 hb
    exact (bodyM_ok (hid e he) (hfit e he) hm).1
  have hbr : ((bodiesM es).map Bdy.id).Pairwise (· < ·) := List.Pairwise.sublist (bodies_ids es (fun e he b hb => (bodyM_ok (hid e he) (hfit e he) hb).2)) (rises_pw hr)
  unfold backE
  split
  · rw [hn]
    split
    · rename_i h1 h2 h3; cases h2
    · rfl
  · rename_i o ho
    obtain ⟨hfx, hoi, p, hp, hx, hy⟩ := bodyM_still ho hn
    obtain ⟨t, ht⟩ := List.mem_iff_getElem?.1 (show o ∈ bodiesM es from List.mem_filterMap.2 ⟨e, he, ho⟩)
    have hL := stepB_fixed (gx := gx) (gy := gy) ht hfx (bodiesM es).length
    have hids := (stepB_ok (gx := gx) (gy := gy) hok (bodiesM es).length).2.2
    obtain ⟨L, hLe⟩ : ∃ L, stepB gx gy (bodiesM es) (bodiesM es).length = L := ⟨_, rfl⟩
    rw [hLe] at hL hids ⊢
    split
    · rfl
    · rename_i b hb
      have hbi : b.id = e.id := by
        have := List.find?_some hb
        unfold idB at this
        simpa using this
      obtain ⟨s, hs⟩ := List.mem_iff_getElem?.1 (List.mem_of_find?_eq_some hb)
      rw [← hids] at hbr
      have hpw := List.pairwise_iff_getElem.1 hbr
      have hsl := (List.getElem?_eq_some_iff.1 hs).1
      have htl := (List.getElem?_eq_some_iff.1 hL).1
      have es' := (List.getElem?_eq_some_iff.1 hs).2
      have et' := (List.getElem?_eq_some_iff.1 hL).2
      have hst : s = t := by
        rcases Nat.lt_trichotomy s t with q | q | q
        · have := hpw s t (by simpa using hsl) (by simpa using htl) q
          rw [List.getElem_map, List.getElem_map, es', et'] at this
          omega
        · exact q
        · have := hpw t s (by simpa using htl) (by simpa using hsl) q
          rw [List.getElem_map, List.getElem_map, es', et'] at this
          omega
      subst hst
      rw [hs] at hL
      cases hL
      rw [if_pos hfx, hx, hy, setK_same hp]
/-- where only the client's entities have speeds, the predicted tick is a step of the world -/
theorem pred_world {W : Wld} (hV : Valid W) {id gx gy X Y : Int} (hX : -4096 ≤ X ∧ X ≤ 4096) (hY : -4096 ≤ Y ∧ Y ≤ 4096) (ho : OwnVel id W) : predM id gx gy X Y W.es = worldM gx gy (W.es.map (stillE id X Y)) := by
  have hal := mvW_all hV ho X Y
  have hVs := mv_valid hX hY hV (ownM W id)
  rw [hal] at hVs
  have key : ∀ e ∈ W.es, takeE id e (backE (stepB gx gy (bodiesM (W.es.map (stillE id X Y))) (bodiesM (W.es.map (stillE id X Y))).length) (stillE id X Y e)) = backE (stepB gx gy (bodiesM (W.es.map (stillE id X Y))) (bodiesM (W.es.map (stillE id X Y))).length) (stillE id X Y e) := fun e he => by
    have hm : stillE id X Y e ∈ W.es.map (stillE id X Y) := List.mem_map.2 ⟨e, he, rfl⟩
    have hs := still_ok id X Y hX hY e (hV.2.2.2 e he).2.2
    unfold takeE
    rcases hb : ownB id e with _ | _
    · rw [if_neg (by decide)]
      have hn := ho e he hb
      rw [stillE_other hn] at hm ⊢
      exact (backE_still (fun f hf => (hVs.2.2.2 f hf).1) (fun f hf => (hVs.2.2.2 f hf).2.2) hVs.2.2.1 hm hn).symm
    · rw [if_pos rfl]
      have hid : (backE (stepB gx gy (bodiesM (W.es.map (stillE id X Y))) (bodiesM (W.es.map (stillE id X Y))).length) (stillE id X Y e)).id = e.id := by
        have h1 : ∀ L f, (backE L f).id = f.id := fun L f => by
          unfold backE
          split
          · split <;> rfl
          · split
            · rfl
            · split <;> rfl
        rw [h1, hs.1]
      rw [← hid]
  unfold predM
  obtain ⟨L, hL⟩ : ∃ L, stepB gx gy (bodiesM (W.es.map (stillE id X Y))) (bodiesM (W.es.map (stillE id X Y))).length = L := ⟨_, rfl⟩
  unfold worldM
  rw [hL] at key ⊢
  apply List.ext_getElem?
  intro i
  rw [List.getElem?_zipWith, List.getElem?_map, List.getElem?_map]
  rcases he : W.es[i]? with _ | e
  · rfl
  · simp only [Option.map_some]
    rw [key e (List.mem_iff_getElem?.2 ⟨i, he⟩)]
/-- the move that the law hands over -/
def farL (x y : Int) : Int := max x (max (-x) (max y (-y)))
def limX (x y : Int) : Int := if farL x y ≤ 64 then x else Int.tdiv (x * 64) (farL x y)
def limY (x y : Int) : Int := if farL x y ≤ 64 then y else Int.tdiv (y * 64) (farL x y)
theorem farL_is (x y : Int) : farL x y = vfar x y := by unfold farL vfar; omega
theorem tdiv_tq (a f : Int) (hf : 0 < f) : Int.tdiv a f = tq a f := by
  rcases Int.lt_or_le a 0 with h | h
  · obtain ⟨b, rfl⟩ : ∃ b, a = -b := ⟨-a, by omega⟩
    rw [Int.neg_tdiv, tq_neg_l, tq_pos b f (by omega) hf, Int.tdiv_eq_ediv_of_nonneg (by omega)]
  · rw [tq_pos a f h hf, Int.tdiv_eq_ediv_of_nonneg h]
theorem lim_wst (x y : Int) : limX x y = wst x (vfar x y) 64 ∧ limY x y = wst y (vfar x y) 64 := by
  unfold limX limY wst
  rw [farL_is]
  constructor
  · by_cases h : vfar x y ≤ 64
    · rw [if_pos h, if_neg (by decide), if_pos h]
    · rw [if_neg h, if_neg (by decide), if_neg h, tdiv_tq _ _ (by omega)]
  · by_cases h : vfar x y ≤ 64
    · rw [if_pos h, if_neg (by decide), if_pos h]
    · rw [if_neg h, if_neg (by decide), if_neg h, tdiv_tq _ _ (by omega)]
theorem fits_vel0 {x : Cmp} (h : fits x = true) (hk : x.k = 2) : x.c = 0 ∧ x.d = 0 := by
  obtain ⟨k, a, b, c, d⟩ := x
  simp only at hk
  subst hk
  simp only [fits, inLim, Cmp.v, Bool.and_eq_true, decide_eq_true_eq] at h
  obtain ⟨⟨⟨h1, h2⟩, ⟨⟨⟨h3, h4⟩, h5⟩, h6⟩⟩, h7⟩ := h
  have e3 : lim 2 2 = (0, 0) := by decide
  have e4 : lim 2 3 = (0, 0) := by decide
  rw [e3] at h5
  rw [e4] at h6
  simp only at h5 h6 ⊢
  omega
theorem find_kinds {k : Int} : ∀ {cs ds : List Cmp}, cs.map Cmp.k = ds.map Cmp.k → (cs.find? (keyC k)).isSome = (ds.find? (keyC k)).isSome
  | [], [], _ => rfl
  | [], d :: ds, h => by cases h
  | c :: cs, [], h => by cases h
  | c :: cs, d :: ds, h => by
    simp only [List.map_cons, List.cons.injEq] at h
    have : keyC k c = keyC k d := by unfold keyC; rw [h.1]
    rw [List.find?_cons, List.find?_cons, this]
    split
    · rfl
    · exact find_kinds h.2
/-- the speed of an entity in the predicted world -/
theorem got_vel {W : Wld} {id gx gy : Int} {x : Inp} (hV : Valid W) (hR : Valid (predW W id gx gy x)) {i : Nat} {e : Ent} (he : W.es[i]? = some e) :
    (e.cs.find? (keyC 2) = none → getM (predW W id gx gy x) e.id 2 = none) ∧ (∀ v, e.cs.find? (keyC 2) = some v → ∃ u, getM (predW W id gx gy x) e.id 2 = some u ∧ ∀ X Y, (⟨u.k, X, Y, u.c, u.d⟩ : Cmp) = putXY X Y v) := by
  obtain ⟨y, hy, hyid, -, -, hyk⟩ := pred_at hV id gx gy x he
  have hg := getM_at hR hy 2
  rw [hyid, keyC_fun] at hg
  have hs := find_kinds (k := 2) hyk
  rw [hg]
  constructor
  · intro hn
    rw [hn] at hs
    simpa using hs
  · intro v hv
    rw [hv] at hs
    obtain ⟨u, hu⟩ := Option.isSome_iff_exists.1 hs
    refine ⟨u, hu, fun X Y => ?_⟩
    obtain ⟨f1, k1⟩ := find_fits (hR.2.2.2 y (List.mem_iff_getElem?.2 ⟨i, hy⟩)).2.2 hu
    obtain ⟨f2, k2⟩ := find_fits (hV.2.2.2 e (List.mem_iff_getElem?.2 ⟨i, he⟩)).2.2 hv
    have z1 := fits_vel0 f1 k1
    have z2 := fits_vel0 f2 k2
    unfold putXY
    rw [k1, k2, z1.1, z1.2, z2.1, z2.2]
/-- the law as plain data -/
theorem exact_plain {W R : Wld} {id gx gy : Int} {x : Inp} (h : predR W id gx gy x = (R, 0)) (ho : OwnVel id W) : R = ⟨W.t + 1, worldM gx gy (mvW W (limX x.mx x.my) (limY x.mx x.my) (ownM W id)).es⟩ := by
  obtain ⟨hV, -, hR, -⟩ := predR_ok h
  rw [hR, mvW_all hV ho, (lim_wst x.mx x.my).1, (lim_wst x.mx x.my).2]
  unfold predW
  rw [pred_world hV (wst64 x.mx x.my) (wst64' x.mx x.my) ho]
/-! Sown -/
set_option maxRecDepth 100000
attribute [local go_sem] opLow opUpon opLow2 opUpon2

set_option maxHeartbeats 4000000 in
theorem sown_any (e : Ent) (a : Option Addr) (n c : Nat) (w : World) (h : CompsAt w (.slice a n c) e.cs) :
    Calls Tryz.prog 76 #[.agg #[.int .i64 e.id, .slice a n c]] w fun r w' => ∃ a' n' c', r = .returned (.agg #[.int .i64 e.id, .slice a' n' c']) ∧ RowC w.heap.size w' (.slice a' n' c') e.cs ∧ Below w.heap.size w w' := by
  have HH := Lib.hid h
  clear h
  go_enter Tryz.func76, Tryz.ntmps76
  go_upto_region 1 with fail
  refine wp_name (fun V => Bk V w.heap.size #[.int .i64 e.id, .slice a n c] 43 ∧ Bk V (w.heap.size + 1) #[.int .i64 0, .slice none 0 0] 43 ∧ Below w.heap.size w V) ⟨(Bk.made _ _ _).alloc _, Bk.at_ (by simp), by go_grown⟩ ?_
  rintro V1 ⟨B1, B2, hb⟩
  have k0 := cell_regrown (B1.cell (v := .int .i64 e.id) 0 rfl)
  have k1 := cell_regrown (B1.cell (v := .slice a n c) 1 rfl)
  refine wp_region_low2 (post1 42 (aClone V1 e.cs)) 5 (by kernel_rfl) (by kernel_rfl) ?_
  simp only [List.take, List.drop]
  iterate 4 (refine low2_step (fun K hK => ?_); go_simp; first | (refine hK _ ?_; clear hK K) | (apply Exists.intro; refine ⟨fun p => ?_, hK _ ?_⟩; clear hK K))
  refine low2_call 42 #[.slice a n c] (aClone V1 e.cs) (by rfl) (fun w => by go_simp) (post1_same _ _) (fun V hV _ => ?_) ?_
  · refine (cloneC_any _ e.cs V (HH.out.below (below_cc hV hb).1)).mono ?_
    rintro e V' ⟨v, rfl, h1, h2⟩
    exact ⟨v, rfl, ⟨hV.size, h1⟩, h2⟩
  rintro v6 ⟨_, _, -, h6⟩
  obtain ⟨a6, n6, c6, rfl⟩ := h6.form
  clear h6
  refine low2_nil ?_
  intro W2 hC
  have hb2 := hC.1
  obtain ⟨u1, u2, hA, hu1, hu2⟩ := hC.made 4 _ rfl
  have hRow : RowC w.heap.size W2 (.slice a6 n6 c6) e.cs := (hA.2.below hu2).mono (Nat.le_trans hb.size hA.1)
  have C2 := B2.below hb2
  obtain ⟨hbw, hs2⟩ := below_cc hb2 hb
  have f0 := C2.free 0
  have f1 := C2.free 1
  have c0 := C2.cell (v := .int .i64 0) 0 rfl
  have c1 := C2.cell (v := .slice none 0 0) 1 rfl
  have lt := C2.lt
  have E0 := C2.put 0 (.int .i64 e.id)
  have HX := Lib.hid (And.intro (E0.put 1 (.slice a6 n6 c6)) (And.intro ((hRow.set (p := ⟨w.heap.size + 1, 0, none⟩) C2 (by decide) (.int .i64 e.id)).set (p := ⟨w.heap.size + 1, 1, none⟩) E0 (by decide) (.slice a6 n6 c6)) ((hbw.setCell (p := ⟨w.heap.size + 1, 0, none⟩) (Nat.le_succ _) (.int .i64 e.id)).setCell (p := ⟨w.heap.size + 1, 1, none⟩) (Nat.le_succ _) (.slice a6 n6 c6))))
  clear E0 hRow hbw hs2 hu1 hu2 hA hC hb2 B1 B2 k0 k1 C2 hb
  go_wp2
  refine post_name (fun V => Bk V (w.heap.size + 1) #[.int .i64 e.id, .slice a6 n6 c6] 43 ∧ RowC w.heap.size V (.slice a6 n6 c6) e.cs ∧ Below w.heap.size w V) HX.out ?_
  clear HX c0 c1 f0 f1 lt
  rintro V7 ⟨BV, hRV, hbV⟩
  have y0 := BV.cell (v := .int .i64 e.id) 0 rfl
  have y1 := BV.cell (v := .slice a6 n6 c6) 1 rfl
  exact bodyPost_ret (v := .agg #[.int .i64 e.id, .slice a6 n6 c6]) (by simp [results, Tryz.results76, go_sem, y0, y1]; try rfl) rfl ⟨a6, n6, c6, rfl, hRV, hbV⟩
def aSown (w0 : World) (en : Ent) : Array Value → Value → World → World → Prop := fun _ v w1 w2 => w0.heap.size ≤ w1.heap.size ∧ ∃ a n c, v = .agg #[.int .i64 en.id, .slice a n c] ∧ RowC w1.heap.size w2 (.slice a n c) en.cs
set_option maxHeartbeats 4000000 in
theorem scopied_any (W : Wld) (a : Option Addr) (n c : Nat) (w : World) (h : EntsAt w (.slice a n c) W.es) :
    Calls Tryz.prog 56 #[Wv W.t a n c] w fun e w' => ∃ a' n' c', e = .returned (Wv W.t a' n' c') ∧ Fresh w.heap.size w' (.slice a' n' c') W.es ∧ Below w.heap.size w w' := by
  obtain ⟨t, es⟩ := W
  simp only at h
  have hlen := h.len
  have HL := Lib.hid hlen
  have hn : n < 1099511627776 := by
    rcases h with ⟨_, rfl⟩ | ⟨b, off, cap, _, hl, _⟩
    · rw [hlen]; simp
    · rw [hlen]; exact hl
  obtain ⟨i0, hi, hz0, hz1, hz2⟩ := info_parts infoE
  have HH := Lib.hid h
  clear hlen h
  go_enter Tryz.func56, Tryz.ntmps56
  go_wp2
  go_loopw [12] (fun v12 wr => ∃ (k : Nat) (a' : Option Addr) (n' c' : Nat), k ≤ n ∧ v12 = .int .i64 k ∧ Bk wr (w.heap.size + 1) #[.int .i64 0, .slice none 0 0] 26 ∧ Bk wr (w.heap.size + 1 + 1) #[.int .i64 t, .slice a' n' c'] 26 ∧ Fresh w.heap.size wr (.slice a' n' c') (es.take k) ∧ Below w.heap.size w wr) (fun v12 _ => n - (intOf v12).toNat)
  case atStart => exact ⟨0, none, 0, 0, by omega, rfl, ((Bk.at_ (by simp)).alloc _), Bk.at_ (by simp), Fresh.nil _ _, by go_grown⟩
  case round =>
    obtain ⟨k, a', n', c', hk, rfl, B1, B2, hF, hb⟩ := hrel
    have hs := hb.size
    have lt1 := B1.lt
    have lt2 := B2.lt
    by_cases hlt : k < n
    · obtain ⟨x, hx⟩ := at_lt (l := es) (i := k) (by rw [← HL.out]; exact hlt)
      rcases HH.out with ⟨h, hnil⟩ | ⟨b, off, cap, h, hl, hc⟩
      · rw [hnil] at hx; cases hx
      · injection h with h1 h2 h3
        subst h1 h3
        obtain ⟨x0, xa, xn, xc, x1, xh⟩ := hc k x hx
        have HX := Lib.hid hx
        replace x0 := cell_later hb x0
        replace x1 := cell_later hb x1
        replace xh := xh.below hb
        clear hx h2 hc hl
        go_wp2
        refine wp_name (fun W1 => Bk W1 wr.heap.size #[.int .i64 x.id, .slice xa xn xc] 43 ∧ Bk W1 (w.heap.size + 1) #[.int .i64 0, .slice none 0 0] 26 ∧ Bk W1 (w.heap.size + 1 + 1) #[.int .i64 t, .slice a' n' c'] 26 ∧ Fresh w.heap.size W1 (.slice a' n' c') (es.take k) ∧ CompsAt W1 (.slice xa xn xc) x.cs ∧ Below w.heap.size w W1) ⟨Bk.made _ _ _, B1.alloc _, B2.alloc _, hF.below ((Below.refl _ _).alloc (Nat.le_refl _) _), xh.below ((Below.refl _ _).alloc (Nat.le_refl _) _), hb.alloc hs _⟩ ?_
        rintro W1 ⟨Be, B1', B2', hF', xh', hb1⟩
        clear B1 B2 hF xh hb hs lt1 lt2 x0 x1
        have k0 := cell_regrown (B2'.cell (v := .int .i64 t) 0 rfl)
        have k1 := cell_regrown (B2'.cell (v := .slice a' n' c') 1 rfl)
        have k2 := cell_regrown (Be.cell (v := .int .i64 x.id) 0 rfl)
        have k3 := cell_regrown (Be.cell (v := .slice xa xn xc) 1 rfl)
        refine wp_region_low2 (post1 76 (aSown W1 x)) 5 (by kernel_rfl) (by kernel_rfl) ?_
        simp only [List.take, List.drop]
        iterate 3 (refine low2_step (fun K hK => ?_); go_simp; first | (refine hK _ ?_; clear hK K) | (apply Exists.intro; refine ⟨fun p => ?_, hK _ ?_⟩; clear hK K))
        refine low2_call 76 #[.agg #[.int .i64 x.id, .slice xa xn xc]] (aSown W1 x) (by rfl) (fun w => by go_simp) (post1_same _ _) (fun V hV _ => ?_) ?_
        · refine (sown_any x xa xn xc V (xh'.below hV)).mono ?_
          rintro e V' ⟨a6, n6, c6, rfl, h1, h2⟩
          exact ⟨_, rfl, ⟨hV.size, a6, n6, c6, rfl, h1⟩, h2⟩
        rintro v6 ⟨_, _, -, a6, n6, c6, rfl, -⟩
        refine low2_slice 1 1 (.cells #[.int .i64 x.id, .slice a6 n6 c6] 43) (by rfl) (fun w => by go_simp) ?_
        intro g8
        refine low2_nil ?_
        intro W2 hC
        have hb2 := hC.1
        obtain ⟨z8, B8⟩ : _ ∧ Bk W2 g8 #[.int .i64 x.id, .slice a6 n6 c6] 43 := hC.made 4 _ rfl
        obtain ⟨u1, u2, ⟨hA1, a7, n7, c7, hq, hA2⟩, hu1, hu2⟩ := hC.made 3 _ rfl
        injection hq with hq
        injection hq with hq
        simp only [List.cons.injEq, Value.slice.injEq, and_true, true_and] at hq
        obtain ⟨rfl, rfl, rfl⟩ := hq
        have hRow : RowC W1.heap.size W2 (.slice a6 n6 c6) x.cs := (hA2.below hu2).mono hA1
        have C1 := B1'.below hb2
        have C2 := B2'.below hb2
        obtain ⟨hkl, ss, h1, h2, h3, h4⟩ := hF'
        have h2' := row_below h2 hb2
        have hkk : (es.take k).length = k := by rw [List.length_take, ← HL.out]; omega
        have hS1 := hb1.size
        have hS2 := hb2.size
        refine wpList_append_mine _ rfl _ _ 24 rfl w.heap.size 43 i0 (.agg #[.int .i64 0, .slice none 0 0]) 2 32 Tryz.underlying24 hi hz0 hz1 hz2 rfl (by decide) _ _ _ rfl h2' ⟨g8, 0, none⟩ 1 1 [.int .i64 x.id, .slice a6 n6 c6] rfl rfl ?c1 ?c2 (by decide) ?c4 ?c5 (by omega) ?_
        case c1 =>
          intro j u hj
          match j, hj with
          | 0, hj => simp at hj; subst hj; exact B8.cell 0 rfl
          | 1, hj => simp at hj; subst hj; simp [Addr.add]; exact B8.cell 1 rfl
        case c2 => intro u hu; simp at hu; rcases hu with rfl | rfl <;> rfl
        case c4 => rw [hkk]; unfold maxLen; omega
        case c5 => rw [hkk]; omega
        intro gb cap' w1 hown' hgrow hgb
        change W2.grownBy w1 (Value.slice a' n' c').ownBlock at hgrow
        have D1 : Bk w1 (w.heap.size + 1) #[.int .i64 0, .slice none 0 0] 26 := (hgrow.block _ C1.lt (bk_ne_row C1 (by decide) h2')).trans C1
        have D2 : Bk w1 (w.heap.size + 1 + 1) #[.int .i64 t, .slice a' n' c'] 26 := (hgrow.block _ C2.lt (bk_ne_row C2 (by decide) h2')).trans C2
        have hRow' := hRow.grown hgrow h2' (by decide)
        have hFr : Fresh w.heap.size w1 (.slice (some ⟨gb, 0, none⟩) ((es.take k).length + 1) cap') (es.take k ++ [x]) :=
          Fresh.push (w := W1) ⟨ss, h1, h3, h4, hown'⟩ (by rw [hkk]; omega) hRow' hS1 (fun b hb' ⟨cs, hcs⟩ => (hgrow.block b (Nat.lt_of_lt_of_le hb' hS2) (cells_ne_row (hcs.symm ▸ hb2.block b hb') (by decide) h2')).trans (hb2.block b hb'))
        have hbw : Below w.heap.size w w1 := (hb1.trans (hb2.mono hS1)).grown hgrow (Nat.le_trans hS1 hS2) (fun b hb' => (h2'.lt b hb').1)
        rw [hkk] at hFr ⊢
        clear hown' hgrow hRow hRow' h1 h2 h2' h3 h4 hA1 hA2 hu1 hu2 hC B8 z8 C1 C2 B1' B2' Be xh' hb1 hb2 hkl hS1 hS2 hgb k0 k1 k2 k3
        have d1 := D2.cell (v := .slice a' n' c') 1 rfl
        have e1 := D2.free 1
        have lt2 := D2.lt
        go_wp2
        go_roundw
        case rel => exact ⟨k + 1, _, _, _, by omega, by go_num, D1.far (p := ⟨w.heap.size + 1 + 1, 1, none⟩) (by simp) _, D2.put 1 _, by rw [take_succ HX.out]; exact hFr.set (p := ⟨w.heap.size + 1 + 1, 1, none⟩) D2 (by decide) (by decide) _, hbw.setCell (p := ⟨w.heap.size + 1 + 1, 1, none⟩) (by show w.heap.size ≤ w.heap.size + 1 + 1; omega) _⟩
        case measure => simp [intOf]; omega
    · obtain rfl : k = n := by omega
      have hall : es.take k = es := List.take_of_length_le (by rw [← HL.out]; omega)
      rw [hall] at hF
      have c0 := B2.cell (v := .int .i64 t) 0 rfl
      have c1 := B2.cell (v := .slice a' n' c') 1 rfl
      have d0 := B1.cell (v := .int .i64 0) 0 rfl
      have d1 := B1.cell (v := .slice none 0 0) 1 rfl
      have f0 := B1.free 0
      have f1 := B1.free 1
      go_wp2
      refine post_name (fun V => Bk V (w.heap.size + 1) #[.int .i64 t, .slice a' n' c'] 26 ∧ Fresh w.heap.size V (.slice a' n' c') es ∧ Below w.heap.size w V) ⟨(B1.put 0 _).put 1 _, (hF.set (p := ⟨w.heap.size + 1, 0, none⟩) B1 (by decide) (by decide) _).set (p := ⟨w.heap.size + 1, 1, none⟩) (B1.put 0 _) (by decide) (by decide) _, by go_grown⟩ ?_
      rintro V ⟨BV, hFV, hbV⟩
      clear c0 c1 d0 d1 f0 f1
      have d0 := BV.cell (v := .int .i64 t) 0 rfl
      have d1 := BV.cell (v := .slice a' n' c') 1 rfl
      refine bodyPost_ret (v := Wv t a' n' c') (by simp [results, Tryz.results56, go_sem, d0, d1]; try rfl) rfl ⟨a', n', c', rfl, hFV, hbV⟩
theorem find_bad (W : Wld) (a : Option Addr) (n c : Nat) (id : Int) (w : World) (hR : RG w) (h : EntsAt w (.slice a n c) W.es) (hV : ¬ Valid W) :
    Calls Tryz.prog 47 #[Wv W.t a n c, .int .i64 id] w fun e w' => e = .returned (.tuple #[.int .i64 0, .bool false]) ∧ Below w.heap.size w w' := by
  obtain ⟨t, es⟩ := W
  simp only at h
  have hb0 := (Below.refl w.heap.size w).alloc (Nat.le_refl _) (.cells #[.int .i64 t, .slice a n c] 26)
  have HV := Lib.hid hV
  clear hV
  go_enter Tryz.func47, Tryz.ntmps47
  go_wp2_with fail
  with_reducible refine (valid_any ⟨t, es⟩ a n c _ (hR.below hb0) (h.below hb0)).mono ?_
  rw [decide_eq_false HV.out]
  rintro e w1 ⟨rfl, hb⟩
  obtain ⟨hg1, hs1⟩ := below_c (w := w) hb hb0
  go_wp2
  go_returns
  exact ⟨rfl, hg1⟩
set_option maxHeartbeats 4000000 in
theorem get_bad (W : Wld) (a : Option Addr) (n c : Nat) (id kind : Int) (w : World) (hR : RG w) (h : EntsAt w (.slice a n c) W.es) (hV : ¬ Valid W) :
    Calls Tryz.prog 17 #[Wv W.t a n c, .int .i64 id, .int .u8 kind] w fun e w' => e = .returned (.tuple #[C ⟨0, 0, 0, 0, 0⟩, .bool false]) ∧ Below w.heap.size w w' := by
  obtain ⟨t, es⟩ := W
  simp only at h
  have hb0 := ((Below.refl w.heap.size w).alloc (Nat.le_refl _) (.cells #[.int .i64 t, .slice a n c] 26)).alloc (by simp) (.cells #[.int .u8 0, .int .i64 0, .int .i64 0, .int .i64 0, .int .i64 0] 48)
  have HV := Lib.hid hV
  clear hV
  go_enter Tryz.func17, Tryz.ntmps17
  go_wp2_with fail
  with_reducible refine (find_bad ⟨t, es⟩ a n c id _ (hR.below hb0) (h.below hb0) HV.out).mono ?_
  rintro e w1 ⟨rfl, hb⟩
  have B2 : Bk w1 (w.heap.size + 1) #[.int .u8 0, .int .i64 0, .int .i64 0, .int .i64 0, .int .i64 0] 48 := Bk.below (Bk.at_ (by simp)) hb
  obtain ⟨hg1, hs1⟩ := below_c (w := w) hb hb0
  clear hb hb0
  have z0 := B2.cell (v := .int .u8 0) 0 rfl
  have z1 := B2.cell (v := .int .i64 0) 1 rfl
  have z2 := B2.cell (v := .int .i64 0) 2 rfl
  have z3 := B2.cell (v := .int .i64 0) 3 rfl
  have z4 := B2.cell (v := .int .i64 0) 4 rfl
  have f0 := B2.free 0; have f1 := B2.free 1; have f2 := B2.free 2; have f3 := B2.free 3; have f4 := B2.free 4
  go_wp2
  refine post_name (fun V => Bk V (w.heap.size + 1) #[.int .u8 0, .int .i64 0, .int .i64 0, .int .i64 0, .int .i64 0] 48 ∧ Below w.heap.size w V) ⟨((((B2.put 0 _).put 1 _).put 2 _).put 3 _).put 4 _, by go_grown⟩ ?_
  rintro V ⟨BV, hbV⟩
  clear z0 z1 z2 z3 z4 f0 f1 f2 f3 f4
  have z0 := BV.cell (v := .int .u8 0) 0 rfl
  have z1 := BV.cell (v := .int .i64 0) 1 rfl
  have z2 := BV.cell (v := .int .i64 0) 2 rfl
  have z3 := BV.cell (v := .int .i64 0) 3 rfl
  have z4 := BV.cell (v := .int .i64 0) 4 rfl
  exact bodyPost_ret (v := .tuple #[C ⟨0, 0, 0, 0, 0⟩, .bool false]) (by simp [results, Tryz.results17, go_sem, z0, z1, z2, z3, z4]; try rfl) rfl ⟨rfl, hbV⟩
/-! Limited -/
set_option maxRecDepth 100000
attribute [local go_sem] opLow opUpon opLow2 opUpon2

set_option maxHeartbeats 4000000 in
theorem limited_any (x y : Int) (w : World) (hx : -1099511627776 ≤ x ∧ x ≤ 1099511627776) (hy : -1099511627776 ≤ y ∧ y ≤ 1099511627776) :
    Calls Tryz.prog 27 #[.agg #[.int .i64 x, .int .i64 y]] w fun e w' => e = .returned (.tuple #[.int .i64 (limX x y), .int .i64 (limY x y)]) ∧ Below w.heap.size w w' := by
  obtain ⟨f, hf⟩ : ∃ f, farL x y = f := ⟨_, rfl⟩
  have hf0 : 0 ≤ f ∧ f ≤ 1099511627776 ∧ (x.natAbs : Int) ≤ f ∧ (y.natAbs : Int) ≤ f := by rw [← hf]; unfold farL; omega
  have HF := Lib.hid hf
  have w1 : IntKind.i64.wrap (-x) = -x := by rw [IntKind.wrap_i64]; omega
  have w2 : IntKind.i64.wrap (-y) = -y := by rw [IntKind.wrap_i64]; omega
  have w3 : IntKind.i64.wrap (x * 64) = x * 64 := by rw [IntKind.wrap_i64]; omega
  have w4 : IntKind.i64.wrap (y * 64) = y * 64 := by rw [IntKind.wrap_i64]; omega
  by_cases h : f ≤ 64
  · have hl : limX x y = x ∧ limY x y = y := by unfold limX limY; rw [hf, if_pos h, if_pos h]; exact ⟨rfl, rfl⟩
    rw [hl.1, hl.2]
    have d1 : decide (f ≤ 64) = true := decide_eq_true h
    unfold farL at HF
    clear hf hl hf0
    go_enter Tryz.func27, Tryz.ntmps27
    go_wp2_with (refine wpList_max4 _ _ _ _ _ _ rfl _ _ _ _ _ rfl rfl rfl rfl (by simp [Region.wanted]; done) ?_; rw [HF.out])
    refine wp_name (fun V => Bk V w.heap.size #[.int .i64 x, .int .i64 y] 23 ∧ Below w.heap.size w V) ⟨Bk.made _ _ _, by go_grown⟩ ?_
    rintro V1 ⟨B1, hb⟩
    have k0 := cell_regrown (B1.cell (v := .int .i64 x) 0 rfl)
    have k1 := cell_regrown (B1.cell (v := .int .i64 y) 1 rfl)
    refine wp_region_low2 noPosts 5 (by kernel_rfl) (by kernel_rfl) ?_
    simp only [List.take, List.drop]
    iterate 5 (refine low2_step (fun K hK => ?_); go_simp; first | (refine hK _ ?_; clear hK K) | (apply Exists.intro; refine ⟨fun p => ?_, hK _ ?_⟩; clear hK K))
    refine low2_nil ?_
    intro W2 hC
    have hbw := (below_cc hC.1 hb).1
    clear hC hb B1 k0 k1
    go_wp2
    go_returns
    exact ⟨rfl, hbw⟩
  · have hl : limX x y = Int.tdiv (x * 64) f ∧ limY x y = Int.tdiv (y * 64) f := by unfold limX limY; rw [hf, if_neg h, if_neg h]; exact ⟨rfl, rfl⟩
    rw [hl.1, hl.2]
    have d1 : decide (f ≤ 64) = false := decide_eq_false h
    have d2 : ¬ f = 0 := by omega
    have w5 : IntKind.i64.wrap (Int.tdiv (x * 64) f) = Int.tdiv (x * 64) f := by rw [tdiv_tq _ _ (by omega), IntKind.wrap_i64]; have := tq_le (x * 64) f d2; omega
    have w6 : IntKind.i64.wrap (Int.tdiv (y * 64) f) = Int.tdiv (y * 64) f := by rw [tdiv_tq _ _ (by omega), IntKind.wrap_i64]; have := tq_le (y * 64) f d2; omega
    unfold farL at HF
    clear hf hl hf0
    go_enter Tryz.func27, Tryz.ntmps27
    go_wp2_with (refine wpList_max4 _ _ _ _ _ _ rfl _ _ _ _ _ rfl rfl rfl rfl (by simp [Region.wanted]; done) ?_; rw [HF.out])
    refine wp_name (fun V => Bk V w.heap.size #[.int .i64 x, .int .i64 y] 23 ∧ Below w.heap.size w V) ⟨Bk.made _ _ _, by go_grown⟩ ?_
    rintro V1 ⟨B1, hb⟩
    have k0 := cell_regrown (B1.cell (v := .int .i64 x) 0 rfl)
    have k1 := cell_regrown (B1.cell (v := .int .i64 y) 1 rfl)
    refine wp_region_low2 noPosts 11 (by kernel_rfl) (by kernel_rfl) ?_
    simp only [List.take, List.drop]
    iterate 11 (refine low2_step (fun K hK => ?_); go_simp; first | (refine hK _ ?_; clear hK K) | (apply Exists.intro; refine ⟨fun p => ?_, hK _ ?_⟩; clear hK K))
    refine low2_nil ?_
    intro W2 hC
    have hbw := (below_cc hC.1 hb).1
    clear hC hb B1 k0 k1
    go_wp2
    go_returns
    exact ⟨rfl, hbw⟩
/-! Unset -/
set_option maxRecDepth 100000
attribute [local go_sem] opLow opUpon opLow2 opUpon2 opLow3

theorem RowC.block {base g n cap : Nat} {w w' : World} {l : List Cmp} (h : RowC base w (.slice (some ⟨g, 0, none⟩) n cap) l) (hb : w'.heap[g]? = w.heap[g]?) : RowC base w' (.slice (some ⟨g, 0, none⟩) n cap) l := by
  refine ⟨⟨h.1.1, ?_⟩, h.2⟩
  rcases h.1.2 with h1 | ⟨g', cap', cur, hv, hg, hh, hrr⟩
  · exact .inl h1
  · refine .inr ⟨g', cap', cur, hv, hg, ?_, hrr⟩
    injection hv with hv1 hv2 hv3
    injection hv1 with hv1
    injection hv1 with hv1
    subst hv1
    rw [hb]; exact hh
theorem idx_key {e : Ent} (hR : Right e) {i : Nat} {x : Cmp} {k : Int} (hi : e.cs[i]? = some x) (hk : x.k = k) : i = e.cs.findIdx (keyC k) := by
  have hkk : keyC k x = true := by unfold keyC; simpa using hk
  have hil := (List.getElem?_eq_some_iff.1 hi).1
  have hle : e.cs.findIdx (keyC k) ≤ i := by
    rcases Nat.lt_or_ge i (e.cs.findIdx (keyC k)) with h | h
    · have := List.not_of_lt_findIdx h
      rw [(List.getElem?_eq_some_iff.1 hi).2] at this
      exact absurd hkk (by simpa using this)
    · exact h
  rcases Nat.lt_or_ge (e.cs.findIdx (keyC k)) i with h | h
  · exfalso
    have hfl : e.cs.findIdx (keyC k) < e.cs.length := by omega
    have hf := findIdx_key (k := k) (cs := e.cs) (x := e.cs[e.cs.findIdx (keyC k)]) (List.getElem?_eq_getElem hfl)
    have hr := rises_lt hR.rises (a := e.cs.findIdx (keyC k)) (b := i) h (by simpa using hil)
    rw [List.getD, List.getD, List.getElem?_map, List.getElem?_map, hi, List.getElem?_eq_getElem hfl] at hr
    simp only [Option.map_some, Option.getD_some, hf, hk] at hr
    omega
  · omega
theorem place_key {e : Ent} (hR : Right e) {k : Int} {v : Cmp} (hv : e.cs.find? (keyC k) = some v) : lowerOf (fun (x : Cmp) => cmpI x.k k) e.cs = e.cs.findIdx (keyC k) ∧ (hitOf (fun (x : Cmp) => cmpI x.k k) e.cs).isSome = true ∧ e.cs[e.cs.findIdx (keyC k)]? = some v ∧ v.k = k := by
  have h := hit_find hR.rises k
  rw [keyC_fun, hv] at h
  obtain ⟨h1, h2⟩ := hit_some h
  have hk := (cmp_zero _ _).1 h2
  exact ⟨idx_key hR h1 hk, by rw [h]; rfl, by rw [find_idx]; exact hv, hk⟩
theorem find_at {W : Wld} (hV : Valid W) {i : Nat} {e : Ent} (he : W.es[i]? = some e) : lowerOf (fun (x : Ent) => cmpI x.id e.id) W.es = i ∧ (hitOf (fun (x : Ent) => cmpI x.id e.id) W.es).isSome = true := by
  have h := hit_find hV.rises e.id
  have h1 : W.es.find? (fun y => decide (y.id = e.id)) = some e := by
    have hi := (List.getElem?_eq_some_iff.1 he).1
    rw [List.find?_eq_some_iff_getElem]
    refine ⟨by simp, i, hi, (List.getElem?_eq_some_iff.1 he).2, fun j hj => ?_⟩
    have hr := rises_lt hV.rises (a := j) (b := i) hj (by simpa using hi)
    rw [List.getD, List.getD, List.getElem?_map, List.getElem?_map, he, List.getElem?_eq_getElem (by omega)] at hr
    simp at hr
    simp
    omega
  rw [h1] at h
  obtain ⟨h2, h3⟩ := hit_some h
  exact ⟨ent_inj hV h2 he ((cmp_zero _ _).1 h3), by rw [h]; rfl⟩
theorem right_at {W : Wld} (hV : Valid W) {i : Nat} {e : Ent} (he : W.es[i]? = some e) : Right e := hV.2.2.2 e (List.mem_iff_getElem?.2 ⟨i, he⟩)
theorem comps_few {W : Wld} (hV : Valid W) {i : Nat} {e : Ent} (he : W.es[i]? = some e) : e.cs.length ≤ 1000 := by
  have hR := hV.2.2.2 e (List.mem_iff_getElem?.2 ⟨i, he⟩)
  have fk : ∀ x ∈ e.cs, 1 ≤ x.k ∧ x.k ≤ 10 := fun x hx => by
    have h := hR.2.2 x hx
    unfold fits at h
    simp only [Bool.and_eq_true, decide_eq_true_eq] at h
    exact ⟨h.1.1.1, h.1.1.2⟩
  have key : ∀ j, j < e.cs.length → (j : Int) + 1 ≤ (e.cs.map Cmp.k).getD j 0 := fun j => by
    induction j with
    | zero =>
      intro hj
      rw [List.getD, List.getElem?_map, List.getElem?_eq_getElem hj]
      have := (fk _ (List.getElem_mem hj)).1
      simpa using this
    | succ j ih =>
      intro hj
      have h1 := ih (by omega)
      have h2 := rises_lt hR.rises (a := j) (b := j + 1) (by omega) (by simpa using hj)
      omega
  rcases Nat.eq_zero_or_pos e.cs.length with h0 | h0
  · omega
  · have h1 := key (e.cs.length - 1) (by omega)
    rw [List.getD, List.getElem?_map, List.getElem?_eq_getElem (by omega)] at h1
    have h2 := (fk _ (List.getElem_mem (show e.cs.length - 1 < e.cs.length by omega))).2
    simp at h1
    omega
def aDel (base g n cap : Nat) (l : List Cmp) : Array Value → Value → World → World → Prop := fun _ v w1 w2 => v = .slice (some ⟨g, 0, none⟩) n cap ∧ RowC base w2 (.slice (some ⟨g, 0, none⟩) n cap) l ∧ w1.grownBy w2 (some g)
set_option maxHeartbeats 16000000 in
theorem unset_ok (W : Wld) (a : Option Addr) (n c : Nat) (w : World) (hR : RG w) (h : EntsAt w (.slice a n c) W.es) (hV : Valid W) {i : Nat} {e : Ent} {v : Cmp} (he : W.es[i]? = some e) (hv : e.cs.find? (keyC 2) = some v) :
    Calls Tryz.prog 26 #[Wv W.t a n c, .int .i64 e.id, .int .u8 2] w (WFPost w (⟨W.t, W.es.set i (delE e)⟩, 0)) := by
  have VV := Lib.hid (fun V (hV' : Below w.heap.size w V) => by have := valid_any W a n c V (hR.below hV') (EntsAt.below h hV'); rw [decide_eq_true hV] at this; exact this)
  have GE := Lib.hid (fun V (hV' : Below w.heap.size w V) => by have := get_any W a n c e.id 2 V (hR.below hV') (EntsAt.below h hV') hV; rw [getV_some (show getM W e.id 2 = some v by rw [getM_at hV he, keyC_fun]; exact hv)] at this; exact this)
  have CP := Lib.hid (fun V (hV' : Below w.heap.size w V) => scopied_any W a n c V (EntsAt.below h hV'))
  have FI := Lib.hid (fun V (hV' : Below w.heap.size w V) => by have := find_any W a n c e.id V (hR.below hV') (EntsAt.below h hV') hV; rw [(find_at hV he).1, (find_at hV he).2] at this; exact this)
  obtain ⟨hp1, hp2, hp3, hp4⟩ := place_key (right_at hV he) hv
  have PL := Lib.hid (fun V s (hC : CompsAt V s e.cs) => by have := placeComp_any e.cs s 2 V hC (right_at hV he).rises; rw [hp1, hp2] at this; exact this)
  obtain ⟨j, hj⟩ : ∃ j, e.cs.findIdx (keyC 2) = j := ⟨_, rfl⟩
  have hdel : delE e = ⟨e.id, e.cs.eraseIdx j⟩ := by unfold delE; rw [hj]
  rw [hdel]
  rw [hj] at PL hp3
  obtain ⟨t, es⟩ := W
  simp only at h he ⊢
  try unfold Wv at GE
  simp only at VV GE CP FI
  have hjl := (List.getElem?_eq_some_iff.1 hp3).1
  have hn : n = es.length := ListAt.len h
  have hil := (List.getElem?_eq_some_iff.1 he).1
  have hes64 : es.length ≤ 64 := hV.2.1
  obtain ⟨q, hq⟩ : ∃ q, e.cs.length = j + q + 1 := ⟨e.cs.length - j - 1, by omega⟩
  have HQ := Lib.hid (And.intro hq (And.intro he hp3))
  have HN := Lib.hid (And.intro hn (And.intro hil hes64))
  have wj : IntKind.i64.wrap ((j : Int) + 1) = (j : Int) + 1 := by
    have hR := (right_at hV he)
    have h64 := comps_few hV he
    rw [IntKind.wrap_i64]; omega
  have hjs : j < 1000 := by have h64 := comps_few hV he; omega
  have HS := Lib.hid hjs
  clear hR h hV hv hp1 hp2 hp4 hp3 hj hdel hq hjl hn hil hes64 he hjs
  try unfold Wv
  try unfold C at GE
  try simp only
  go_enter Tryz.func26, Tryz.ntmps26
  have HI := Lib.hid (show Bk ((w.alloc (.cells #[.int .i64 t, .slice a n c] 26)).alloc (.cells #[.int .i64 0, .slice none 0 0] 26)) w.heap.size #[.int .i64 t, .slice a n c] 26 ∧ Bk ((w.alloc (.cells #[.int .i64 t, .slice a n c] 26)).alloc (.cells #[.int .i64 0, .slice none 0 0] 26)) (w.heap.size + 1) #[.int .i64 0, .slice none 0 0] 26 ∧ Below w.heap.size w ((w.alloc (.cells #[.int .i64 t, .slice a n c] 26)).alloc (.cells #[.int .i64 0, .slice none 0 0] 26)) from ⟨(Bk.made _ _ _).alloc _, Bk.at_ (by simp), by go_grown⟩)
  go_wp2_with fail
  refine (VV.out _ HI.out.2.2).mono ?_
  rintro r V1 ⟨rfl, hb1⟩
  obtain ⟨hb, hs⟩ := below_cc hb1 HI.out.2.2
  have B3 := HI.out.1.below hb1
  have B6 := HI.out.2.1.below hb1
  have p0 := B3.cell (v := .int .i64 t) 0 rfl
  have p1 := B3.cell (v := .slice a n c) 1 rfl
  have pl := B3.lt
  clear hb1 HI VV
  have HI := Lib.hid (And.intro B3 (And.intro B6 hb))
  clear B3 B6 hb
  go_wp2_with fail
  refine (GE.out _ HI.out.2.2).mono ?_
  rintro r V2 ⟨rfl, hb2⟩
  obtain ⟨hb, hs2⟩ := below_cc hb2 HI.out.2.2
  have HJ := Lib.hid (And.intro (HI.out.1.below hb2) (And.intro (HI.out.2.1.below hb2) hb))
  clear hb2 hb HI GE p0 p1 pl hs
  go_upto_region 6 with fail
  refine wp_name (fun X => Bk X w.heap.size #[.int .i64 t, .slice a n c] 26 ∧ Bk X (w.heap.size + 1) #[.int .i64 0, .slice none 0 0] 26 ∧ Below w.heap.size w X) ⟨HJ.out.1.alloc _, HJ.out.2.1.alloc _, HJ.out.2.2.alloc hs2 _⟩ ?_
  clear HJ hs2
  rintro V3 ⟨B3, B6, hb⟩
  have p0 := B3.cell (v := .int .i64 t) 0 rfl
  have p1 := B3.cell (v := .slice a n c) 1 rfl
  have pl := B3.lt
  have HI := Lib.hid (And.intro B3 (And.intro B6 hb))
  clear B3 B6 hb
  go_wp2_with fail
  refine (CP.out _ HI.out.2.2).mono ?_
  rintro r V4 ⟨aE, nE, cE, rfl, hF, hb2⟩
  have hF := hF.mono (base' := w.heap.size) HI.out.2.2.size
  obtain ⟨hb, hs2⟩ := below_cc hb2 HI.out.2.2
  have HJ := Lib.hid (And.intro (HI.out.1.below hb2) (And.intro (HI.out.2.1.below hb2) (And.intro hb hF)))
  clear hb2 hb HI CP p0 p1 pl hF
  go_upto_region 7 with fail
  obtain ⟨g10, hg10⟩ : ∃ g, V4.heap.size = g := ⟨_, rfl⟩
  have h10 : w.heap.size + 1 < g10 := by rw [← hg10]; exact HJ.out.2.1.lt
  refine wp_name (fun X => Bk X w.heap.size #[.int .i64 t, .slice a n c] 26 ∧ Bk X (w.heap.size + 1) #[.int .i64 0, .slice none 0 0] 26 ∧ Bk X V4.heap.size #[.int .i64 t, .slice aE nE cE] 26 ∧ Below w.heap.size w X ∧ Fresh w.heap.size X (.slice aE nE cE) es) ⟨HJ.out.1.alloc _, HJ.out.2.1.alloc _, Bk.made _ _ _, HJ.out.2.2.1.alloc hs2 _, HJ.out.2.2.2.below ((Below.refl _ _).alloc (Nat.le_refl _) _)⟩ ?_
  rw [hg10]
  clear HJ hs2 hg10 hF
  rintro V5 ⟨B3, B6, B10, hb, hF⟩
  have p0 := B3.cell (v := .int .i64 t) 0 rfl
  have p1 := B3.cell (v := .slice a n c) 1 rfl
  have pl := B3.lt
  have HI := Lib.hid (And.intro B3 (And.intro B6 (And.intro B10 (And.intro hb hF))))
  clear B3 B6 B10 hb hF
  go_wp2_with fail
  refine (FI.out _ HI.out.2.2.2.1).mono ?_
  rintro r V6 ⟨rfl, hb2⟩
  obtain ⟨hb, hs2⟩ := below_cc hb2 HI.out.2.2.2.1
  have hFr := HI.out.2.2.2.2.below hb2
  have B10 := HI.out.2.2.1.below hb2
  have B6 := HI.out.2.1.below hb2
  obtain ⟨ss, hFS⟩ := hFr.open
  obtain ⟨gE, capE, xa, xn, xc, hvE, hss, q0, q1, hRow⟩ := hFS.ent HQ.out.2.1
  injection hvE with w1 w2 w3
  subst w1 w2 w3
  rw [Nat.zero_add] at q0 q1
  obtain ⟨g, cap', cur, hsv, hgb, hBg, hfz, hc0, hc1, hc2⟩ := hRow.comp HQ.out.2.2
  injection hsv with w1 w2 w3
  subst w1 w2 w3
  have hil2 := HN.out.2.1
  have k0 := B10.cell (v := .int .i64 t) 0 rfl
  have k1 := B10.cell (v := .slice (some ⟨gE, 0, none⟩) es.length cE) 1 rfl
  have kl := B10.lt
  have HJ := Lib.hid (And.intro B6 (And.intro B10 (And.intro hb (And.intro hFS (And.intro hss (And.intro hRow (And.intro hgb (show ∃ cur, Bk V6 g cur 48 from ⟨_, hBg⟩))))))))
  clear hb2 hb HI FI p0 p1 pl hFr B10 B6 hFS hss hRow hgb hBg hfz hc0 hc1 hc2 hs2
  go_wp2_with fail
  refine (PL.out V6 _ HJ.out.2.2.2.2.2.1.comps).mono ?_
  rintro r V7 ⟨rfl, hb2⟩
  obtain ⟨hb, hs2⟩ := below_cc hb2 HJ.out.2.2.1
  replace q0 := cell_later hb2 q0
  replace q1 := cell_later hb2 q1
  replace k0 := cell_later hb2 k0
  replace k1 := cell_later hb2 k1
  have HK := Lib.hid (And.intro (HJ.out.1.below hb2) (And.intro (HJ.out.2.1.below hb2) (And.intro hb (And.intro (HJ.out.2.2.2.1.below hb2) (And.intro HJ.out.2.2.2.2.1 (And.intro (HJ.out.2.2.2.2.2.1.below hb2) (And.intro HJ.out.2.2.2.2.2.2.1 (show ∃ cur, Bk V7 g cur 48 from by obtain ⟨c', hc'⟩ := HJ.out.2.2.2.2.2.2.2; exact ⟨c', hc'.below hb2⟩))))))))
  clear hb2 hb HJ PL
  go_upto_region 9 with fail
  obtain ⟨cu, hcu⟩ := HK.out.2.2.2.2.2.2.2
  have ngE : gE ≠ g := fun q => bk_ne_row hcu (by decide) HK.out.2.2.2.1.2.2.1 (by rw [q]; rfl)
  have ng10 : g10 ≠ g := bk_types HK.out.2.1 hcu (by decide)
  have ltg := hcu.lt
  rw [HQ.out.1] at q1
  have q0m := fun p : Mutd (fun b => b = g) V7 => cell_mutd q0 (fun e => ngE e) p
  have q1m := fun p : Mutd (fun b => b = g) V7 => cell_mutd q1 (fun e => ngE e) p
  have k0m := fun p : Mutd (fun b => b = g) V7 => cell_mutd k0 (fun e => ng10 e) p
  have k1m := fun p : Mutd (fun b => b = g) V7 => cell_mutd k1 (fun e => ng10 e) p
  have hR7 := HK.out.2.2.2.2.2.1
  rw [HQ.out.1] at hR7
  have hil' : (i : Int) < (es.length : Int) := by have := HN.out.2.1; omega
  refine wp_region_low3 (post1 41 (aDel w.heap.size g (j + q) xc (e.cs.eraseIdx j))) (fun b => b = g) [12] noSto 13 (by kernel_rfl) (fun b hb => by rw [hb]; exact ltg) noSto_inj (by kernel_rfl) ?_
  simp only [List.take, List.drop]
  iterate 12 (refine low3_step noSto_no (fun K hK => ?_); go_simp; first | (refine hK _ ?_; clear hK K) | (apply Exists.intro; refine ⟨fun p => ?_, hK _ ?_⟩; clear hK K))
  refine low3_call 41 #[.slice (some ⟨g, 0, none⟩) (j + q + 1) xc, .int .i64 j, .int .i64 (j + 1)] (aDel w.heap.size g (j + q) xc (e.cs.eraseIdx j)) noSto_no (by decide) (by rfl) (fun w => by go_simp) (post1_same _ _) (fun V hV => ?_) ?_
  · have hR8 := hR7.block ((hV.2.2 (by decide)).1 g rfl)
    exact (delete_any w.heap.size e.cs g xc j q V hR8 HQ.out.1).mono fun r w' ⟨hr, hR9, hg9⟩ => ⟨_, hr, ⟨rfl, hR9, hg9⟩, ⟨hg9.os, hg9.tape, hg9.output, hg9.size, fun b hb hn => hg9.block b hb (fun q => hn (.inl (Option.some.inj q)))⟩⟩
  rintro vd w1 w2 hV1 ⟨rfl, hR9, hg9⟩ hmut
  refine low3_nil ?_
  intro V8 hC
  have hR8 := hR9.block (hC.phi g (.inl rfl))
  have hgr : V7.grownBy V8 (some g) := ⟨hC.fr.os, hC.fr.tape, hC.fr.output, hC.fr.size, fun b hb hn => hC.fr.block b hb (fun q => hn (by rw [q]))⟩
  have hhs := HK.out.2.2.2.2.1
  rw [HQ.out.1] at hhs
  have hP := FreshS.put (w' := V8) HK.out.2.2.2.1 HQ.out.2.1 hhs hgr hR8 (.inl rfl)
  obtain ⟨hF8, cE8, hE8⟩ := hP
  have B10 := bk_grown hgr HK.out.2.1 ng10
  have ng6 : w.heap.size + 1 ≠ g := bk_types HK.out.1 hcu (by decide)
  have B6 := bk_grown hgr HK.out.1 ng6
  have hbw := HK.out.2.2.1.grown hgr hs2 (fun k q => by cases q; exact HK.out.2.2.2.2.2.2.1)
  have n10 : g10 ≠ gE := bk_types B10 hE8 (by decide)
  have n6 : w.heap.size + 1 ≠ gE := bk_types B6 hE8 (by decide)
  have hgEw := (HK.out.2.2.2.1.2.2.1.lt gE rfl).1
  have q1 := (World.cell?_of_block (hgr.block gE (HK.out.2.2.2.1.2.2.1.lt gE rfl).2 (fun q => ngE (Option.some.inj q)))).trans q1
  have f1 := hE8.free (i * 2 + 1)
  have ltE := hE8.lt
  have HX := Lib.hid (And.intro (B10.far (p := ⟨gE, i * 2 + 1, none⟩) n10 (.slice (some ⟨g, 0, none⟩) (j + q) xc)) (And.intro (B6.far (p := ⟨gE, i * 2 + 1, none⟩) n6 (.slice (some ⟨g, 0, none⟩) (j + q) xc)) (And.intro (FreshS.shut hF8) (hbw.setCell (p := ⟨gE, i * 2 + 1, none⟩) hgEw (.slice (some ⟨g, 0, none⟩) (j + q) xc)))))
  clear hR8 hgr hhs hF8 hE8 B10 B6 hbw hC hV1 hR9 hg9 hmut hR7 q0m q1m k0m k1m hcu HK k0 k1 q0 hs2 ng6
  go_upto_region 10 with fail
  refine wp_name (fun X => Bk X g10 #[.int .i64 t, .slice (some ⟨gE, 0, none⟩) es.length cE] 26 ∧ Bk X (w.heap.size + 1) #[.int .i64 0, .slice none 0 0] 26 ∧ Fresh w.heap.size X (.slice (some ⟨gE, 0, none⟩) es.length cE) (es.set i ⟨e.id, e.cs.eraseIdx j⟩) ∧ Below w.heap.size w X) HX.out ?_
  clear HX q1 f1 ltE
  rintro V9 ⟨B10, B6, hF, hb⟩
  have p0 := B10.cell (v := .int .i64 t) 0 rfl
  have p1 := B10.cell (v := .slice (some ⟨gE, 0, none⟩) es.length cE) 1 rfl
  have pl := B10.lt
  have r0 := B6.cell (v := .int .i64 0) 0 rfl
  have r1 := B6.cell (v := .slice none 0 0) 1 rfl
  have f0 := B6.free 0
  have f1 := B6.free 1
  have lt := B6.lt
  have E0 := B6.put 0 (.int .i64 t)
  have HX := Lib.hid (And.intro (E0.put 1 (.slice (some ⟨gE, 0, none⟩) es.length cE)) (And.intro ((hF.set (p := ⟨w.heap.size + 1, 0, none⟩) B6 (by decide) (by decide) (.int .i64 t)).set (p := ⟨w.heap.size + 1, 1, none⟩) E0 (by decide) (by decide) (.slice (some ⟨gE, 0, none⟩) es.length cE)) ((hb.setCell (p := ⟨w.heap.size + 1, 0, none⟩) (Nat.le_succ _) (.int .i64 t)).setCell (p := ⟨w.heap.size + 1, 1, none⟩) (Nat.le_succ _) (.slice (some ⟨gE, 0, none⟩) es.length cE))))
  clear E0 hF hb B6 B10
  go_wp2
  refine post_name (fun V => Bk V (w.heap.size + 1) #[.int .i64 t, .slice (some ⟨gE, 0, none⟩) es.length cE] 26 ∧ Fresh w.heap.size V (.slice (some ⟨gE, 0, none⟩) es.length cE) (es.set i ⟨e.id, e.cs.eraseIdx j⟩) ∧ Below w.heap.size w V) HX.out ?_
  clear HX p0 p1 pl r0 r1 f0 f1 lt
  rintro V10 ⟨BV, hFV, hbV⟩
  have y0 := BV.cell (v := .int .i64 t) 0 rfl
  have y1 := BV.cell (v := .slice (some ⟨gE, 0, none⟩) es.length cE) 1 rfl
  exact bodyPost_ret (v := .tuple #[Wv t (some ⟨gE, 0, none⟩) es.length cE, .int .i64 0]) (by simp [results, Tryz.results26, go_sem, y0, y1]; try rfl) rfl ⟨some ⟨gE, 0, none⟩, es.length, cE, rfl, hFV, hbV⟩
set_option maxHeartbeats 4000000 in
theorem unset_none (W : Wld) (a : Option Addr) (n c : Nat) (w : World) (hR : RG w) (h : EntsAt w (.slice a n c) W.es) (hV : Valid W) {i : Nat} {e : Ent} (he : W.es[i]? = some e) (hv : e.cs.find? (keyC 2) = none) :
    Calls Tryz.prog 26 #[Wv W.t a n c, .int .i64 e.id, .int .u8 2] w (WFPost w (⟨0, []⟩, 6)) := by
  have VV := Lib.hid (fun V (hV' : Below w.heap.size w V) => by have := valid_any W a n c V (hR.below hV') (EntsAt.below h hV'); rw [decide_eq_true hV] at this; exact this)
  have GE := Lib.hid (fun V (hV' : Below w.heap.size w V) => by have := get_any W a n c e.id 2 V (hR.below hV') (EntsAt.below h hV') hV; rw [getV_none (show getM W e.id 2 = none by rw [getM_at hV he, keyC_fun]; exact hv)] at this; exact this)
  obtain ⟨t, es⟩ := W
  simp only at VV GE ⊢
  clear hR h hV hv he
  try unfold Wv
  try unfold C at GE
  try simp only
  go_enter Tryz.func26, Tryz.ntmps26
  have HI := Lib.hid (show Bk ((w.alloc (.cells #[.int .i64 t, .slice a n c] 26)).alloc (.cells #[.int .i64 0, .slice none 0 0] 26)) w.heap.size #[.int .i64 t, .slice a n c] 26 ∧ Bk ((w.alloc (.cells #[.int .i64 t, .slice a n c] 26)).alloc (.cells #[.int .i64 0, .slice none 0 0] 26)) (w.heap.size + 1) #[.int .i64 0, .slice none 0 0] 26 ∧ Below w.heap.size w ((w.alloc (.cells #[.int .i64 t, .slice a n c] 26)).alloc (.cells #[.int .i64 0, .slice none 0 0] 26)) from ⟨(Bk.made _ _ _).alloc _, Bk.at_ (by simp), by go_grown⟩)
  go_wp2_with fail
  refine (VV.out _ HI.out.2.2).mono ?_
  rintro r V1 ⟨rfl, hb1⟩
  obtain ⟨hb, hs⟩ := below_cc hb1 HI.out.2.2
  have B3 := HI.out.1.below hb1
  have B6 := HI.out.2.1.below hb1
  have p0 := B3.cell (v := .int .i64 t) 0 rfl
  have p1 := B3.cell (v := .slice a n c) 1 rfl
  have pl := B3.lt
  clear hb1 HI VV
  have HI := Lib.hid (And.intro B3 (And.intro B6 hb))
  clear B3 B6 hb
  go_wp2_with fail
  refine (GE.out _ HI.out.2.2).mono ?_
  rintro r V2 ⟨rfl, hb2⟩
  obtain ⟨hb, hs2⟩ := below_cc hb2 HI.out.2.2
  have HJ := Lib.hid (And.intro (HI.out.2.1.below hb2) hb)
  clear hb2 hb HI GE p0 p1 pl hs
  go_upto_region 5 with fail
  refine wp_name (fun X => Bk X (w.heap.size + 1) #[.int .i64 0, .slice none 0 0] 26 ∧ Below w.heap.size w X) ⟨HJ.out.1.alloc _, HJ.out.2.alloc hs2 _⟩ ?_
  clear hs2
  rintro V9 ⟨B6, hb⟩
  have r0 := B6.cell (v := .int .i64 0) 0 rfl
  have r1 := B6.cell (v := .slice none 0 0) 1 rfl
  have f0 := B6.free 0
  have f1 := B6.free 1
  have lt := B6.lt
  have E0 := B6.put 0 (.int .i64 0)
  have HX := Lib.hid (And.intro (E0.put 1 (.slice none 0 0)) ((hb.setCell (p := ⟨w.heap.size + 1, 0, none⟩) (Nat.le_succ _) (.int .i64 0)).setCell (p := ⟨w.heap.size + 1, 1, none⟩) (Nat.le_succ _) (.slice none 0 0)))
  clear E0 hb B6
  go_wp2
  refine post_name (fun V => Bk V (w.heap.size + 1) #[.int .i64 0, .slice none 0 0] 26 ∧ Below w.heap.size w V) HX.out ?_
  clear HX r0 r1 f0 f1 lt
  rintro V10 ⟨BV, hbV⟩
  have y0 := BV.cell (v := .int .i64 0) 0 rfl
  have y1 := BV.cell (v := .slice none 0 0) 1 rfl
  exact bodyPost_ret (v := .tuple #[Wv 0 none 0 0, .int .i64 6]) (by simp [results, Tryz.results26, go_sem, y0, y1]; try rfl) rfl ⟨none, 0, 0, rfl, Fresh.nil _ _, hbV⟩
set_option maxHeartbeats 4000000 in
theorem unset_bad (W : Wld) (a : Option Addr) (n c : Nat) (id : Int) (w : World) (hR : RG w) (h : EntsAt w (.slice a n c) W.es) (hV : ¬ Valid W) :
    Calls Tryz.prog 26 #[Wv W.t a n c, .int .i64 id, .int .u8 2] w (WFPost w (⟨0, []⟩, 2)) := by
  have VV := Lib.hid (fun V (hV' : Below w.heap.size w V) => by have := valid_any W a n c V (hR.below hV') (EntsAt.below h hV'); rw [decide_eq_false hV] at this; exact this)
  obtain ⟨t, es⟩ := W
  simp only at VV ⊢
  clear hR h hV
  try unfold Wv
  try simp only
  go_enter Tryz.func26, Tryz.ntmps26
  have HI := Lib.hid (show Bk ((w.alloc (.cells #[.int .i64 t, .slice a n c] 26)).alloc (.cells #[.int .i64 0, .slice none 0 0] 26)) (w.heap.size + 1) #[.int .i64 0, .slice none 0 0] 26 ∧ Below w.heap.size w ((w.alloc (.cells #[.int .i64 t, .slice a n c] 26)).alloc (.cells #[.int .i64 0, .slice none 0 0] 26)) from ⟨Bk.at_ (by simp), by go_grown⟩)
  go_wp2_with fail
  refine (VV.out _ HI.out.2).mono ?_
  rintro r V2 ⟨rfl, hb2⟩
  obtain ⟨hb, hs2⟩ := below_cc hb2 HI.out.2
  have HJ := Lib.hid (And.intro (HI.out.1.below hb2) hb)
  clear hb2 hb HI VV
  go_upto_region 2 with fail
  refine wp_name (fun X => Bk X (w.heap.size + 1) #[.int .i64 0, .slice none 0 0] 26 ∧ Below w.heap.size w X) ⟨HJ.out.1, HJ.out.2⟩ ?_
  clear hs2
  rintro V9 ⟨B6, hb⟩
  have r0 := B6.cell (v := .int .i64 0) 0 rfl
  have r1 := B6.cell (v := .slice none 0 0) 1 rfl
  have f0 := B6.free 0
  have f1 := B6.free 1
  have lt := B6.lt
  have E0 := B6.put 0 (.int .i64 0)
  have HX := Lib.hid (And.intro (E0.put 1 (.slice none 0 0)) ((hb.setCell (p := ⟨w.heap.size + 1, 0, none⟩) (Nat.le_succ _) (.int .i64 0)).setCell (p := ⟨w.heap.size + 1, 1, none⟩) (Nat.le_succ _) (.slice none 0 0)))
  clear E0 hb B6
  go_wp2
  refine post_name (fun V => Bk V (w.heap.size + 1) #[.int .i64 0, .slice none 0 0] 26 ∧ Below w.heap.size w V) HX.out ?_
  clear HX r0 r1 f0 f1 lt
  rintro V10 ⟨BV, hbV⟩
  have y0 := BV.cell (v := .int .i64 0) 0 rfl
  have y1 := BV.cell (v := .slice none 0 0) 1 rfl
  exact bodyPost_ret (v := .tuple #[Wv 0 none 0 0, .int .i64 2]) (by simp [results, Tryz.results26, go_sem, y0, y1]; try rfl) rfl ⟨none, 0, 0, rfl, Fresh.nil _ _, hbV⟩
/-! Sset -/
set_option maxRecDepth 100000
attribute [local go_sem] opLow opUpon opLow2 opUpon2 opLow3

theorem RowC.put5 {base : Nat} {w : World} {g n cap : Nat} {l : List Cmp} (h : RowC base w (.slice (some ⟨g, 0, none⟩) n cap) l) {j : Nat} {v : Cmp} (hv : l[j]? = some v) (x : Cmp) (hk : x.k = v.k) :
    RowC base (((((w.setCell ⟨g, j * 5, none⟩ (.int .u8 x.k)).setCell ⟨g, j * 5 + 1, none⟩ (.int .i64 x.a)).setCell ⟨g, j * 5 + 1 + 1, none⟩ (.int .i64 x.b)).setCell ⟨g, j * 5 + 1 + 2, none⟩ (.int .i64 x.c)).setCell ⟨g, j * 5 + 1 + 3, none⟩ (.int .i64 x.d)) (.slice (some ⟨g, 0, none⟩) n cap) (l.set j x) := by
  have hj := (List.getElem?_eq_some_iff.1 hv).1
  have at_ : ∀ z : Cmp, (l.set j z)[j]? = some z := fun z => by rw [List.getElem?_set_self hj]
  have h0 := h.store (j := j) (r := 0) (y := ⟨x.k, v.a, v.b, v.c, v.d⟩) (u := .int .u8 x.k) hv (by decide) rfl hk
  have h1 := h0.store (j := j) (r := 1) (y := ⟨x.k, x.a, v.b, v.c, v.d⟩) (u := .int .i64 x.a) (at_ _) (by decide) rfl rfl
  rw [List.set_set] at h1
  have h2 := h1.store (j := j) (r := 2) (y := ⟨x.k, x.a, x.b, v.c, v.d⟩) (u := .int .i64 x.b) (at_ _) (by decide) rfl rfl
  rw [List.set_set] at h2
  have h3 := h2.store (j := j) (r := 3) (y := ⟨x.k, x.a, x.b, x.c, v.d⟩) (u := .int .i64 x.c) (at_ _) (by decide) rfl rfl
  rw [List.set_set] at h3
  have h4 := h3.store (j := j) (r := 4) (y := ⟨x.k, x.a, x.b, x.c, x.d⟩) (u := .int .i64 x.d) (at_ _) (by decide) rfl rfl
  rw [List.set_set, Nat.zero_add] at h4
  exact h4
theorem grown5 {w : World} (g a b c d e : Nat) (u1 u2 u3 u4 u5 : Value) : w.grownBy (((((w.setCell ⟨g, a, none⟩ u1).setCell ⟨g, b, none⟩ u2).setCell ⟨g, c, none⟩ u3).setCell ⟨g, d, none⟩ u4).setCell ⟨g, e, none⟩ u5) (some g) :=
  grown_set u5 (grown_set u4 (grown_set u3 (grown_set u2 (grown_set u1 ⟨rfl, rfl, rfl, Nat.le_refl _, fun _ _ _ => rfl⟩))))
set_option maxHeartbeats 16000000 in
theorem set_ok (W : Wld) (a : Option Addr) (n c : Nat) (w : World) (hR : RG w) (h : EntsAt w (.slice a n c) W.es) (hV : Valid W) {i : Nat} {e : Ent} {v : Cmp} (he : W.es[i]? = some e) (hv : e.cs.find? (keyC 2) = some v) (x : Cmp) (hxk : x.k = v.k) (hxf : fits x = true) :
    Calls Tryz.prog 28 #[Wv W.t a n c, .int .i64 e.id, C x] w (WFPost w (⟨W.t, W.es.set i ⟨e.id, e.cs.set (e.cs.findIdx (keyC 2)) x⟩⟩, 0)) := by
  have VV := Lib.hid (fun V (hV' : Below w.heap.size w V) => by have := valid_any W a n c V (hR.below hV') (EntsAt.below h hV'); rw [decide_eq_true hV] at this; exact this)
  obtain ⟨hp1, hp2, hp3, hp4⟩ := place_key (right_at hV he) hv
  rw [hp4] at hxk
  have FT := Lib.hid (fun V (hV' : Below w.heap.size w V) => by have := fits_any x V (hR.below hV') (by omega) (by omega); rw [hxf] at this; exact this)
  have CP := Lib.hid (fun V (hV' : Below w.heap.size w V) => scopied_any W a n c V (EntsAt.below h hV'))
  have FI := Lib.hid (fun V (hV' : Below w.heap.size w V) => by have := find_any W a n c e.id V (hR.below hV') (EntsAt.below h hV') hV; rw [(find_at hV he).1, (find_at hV he).2] at this; exact this)
  have PL := Lib.hid (fun V s (hC : CompsAt V s e.cs) => by have := placeComp_any e.cs s 2 V hC (right_at hV he).rises; rw [hp1, hp2] at this; exact this)
  obtain ⟨j, hj⟩ : ∃ j, e.cs.findIdx (keyC 2) = j := ⟨_, rfl⟩
  rw [hj] at PL hp3 ⊢
  obtain ⟨t, es⟩ := W
  obtain ⟨x0, x1, x2, x3, x4⟩ := x
  simp only at h he hxk ⊢
  subst hxk
  try unfold Wv at CP
  simp only at VV CP FI FT
  have hjl := (List.getElem?_eq_some_iff.1 hp3).1
  have hn : n = es.length := ListAt.len h
  have hil := (List.getElem?_eq_some_iff.1 he).1
  have hes64 : es.length ≤ 64 := hV.2.1
  have hcl := comps_few hV he
  have HQ := Lib.hid (And.intro (And.intro hjl hcl) (And.intro he (And.intro hp3 hp4)))
  have HN := Lib.hid (And.intro hn (And.intro hil hes64))
  clear hR h hV hv hp1 hp2 hp4 hp3 hj hjl hn hil hes64 he hxf hcl
  try unfold Wv
  try unfold C at FT
  try unfold C
  try simp only
  go_enter Tryz.func28, Tryz.ntmps28
  have HI := Lib.hid (show Bk (((w.alloc (.cells #[.int .i64 t, .slice a n c] 26)).alloc (.cells #[.int .u8 2, .int .i64 x1, .int .i64 x2, .int .i64 x3, .int .i64 x4] 48)).alloc (.cells #[.int .i64 0, .slice none 0 0] 26)) w.heap.size #[.int .i64 t, .slice a n c] 26 ∧ Bk (((w.alloc (.cells #[.int .i64 t, .slice a n c] 26)).alloc (.cells #[.int .u8 2, .int .i64 x1, .int .i64 x2, .int .i64 x3, .int .i64 x4] 48)).alloc (.cells #[.int .i64 0, .slice none 0 0] 26)) (w.heap.size + 1) #[.int .u8 2, .int .i64 x1, .int .i64 x2, .int .i64 x3, .int .i64 x4] 48 ∧ Bk (((w.alloc (.cells #[.int .i64 t, .slice a n c] 26)).alloc (.cells #[.int .u8 2, .int .i64 x1, .int .i64 x2, .int .i64 x3, .int .i64 x4] 48)).alloc (.cells #[.int .i64 0, .slice none 0 0] 26)) (w.heap.size + 1 + 1) #[.int .i64 0, .slice none 0 0] 26 ∧ Below w.heap.size w (((w.alloc (.cells #[.int .i64 t, .slice a n c] 26)).alloc (.cells #[.int .u8 2, .int .i64 x1, .int .i64 x2, .int .i64 x3, .int .i64 x4] 48)).alloc (.cells #[.int .i64 0, .slice none 0 0] 26)) from ⟨((Bk.made _ _ _).alloc _).alloc _, (Bk.at_ (by simp)).alloc _, Bk.at_ (by simp), by go_grown⟩)
  go_wp2_with fail
  refine (VV.out _ HI.out.2.2.2).mono ?_
  rintro r V1 ⟨rfl, hb1⟩
  obtain ⟨hb, hs⟩ := below_cc hb1 HI.out.2.2.2
  have B3 := HI.out.1.below hb1
  have B5 := HI.out.2.1.below hb1
  have B6 := HI.out.2.2.1.below hb1
  have z0 := B5.cell (v := .int .u8 2) 0 rfl
  have z1 := B5.cell (v := .int .i64 x1) 1 rfl
  have z2 := B5.cell (v := .int .i64 x2) 2 rfl
  have z3 := B5.cell (v := .int .i64 x3) 3 rfl
  have z4 := B5.cell (v := .int .i64 x4) 4 rfl
  have zl := B5.lt
  clear hb1 HI VV
  have HI := Lib.hid (And.intro B3 (And.intro B5 (And.intro B6 hb)))
  clear B3 B5 B6 hb
  go_wp2_with fail
  refine (FT.out _ HI.out.2.2.2).mono ?_
  rintro r V2 ⟨rfl, hb2⟩
  obtain ⟨hb, hs2⟩ := below_cc hb2 HI.out.2.2.2
  have HJ := Lib.hid (And.intro (HI.out.1.below hb2) (And.intro (HI.out.2.1.below hb2) (And.intro (HI.out.2.2.1.below hb2) hb)))
  clear hb2 hb HI FT z0 z1 z2 z3 z4 zl hs
  have B3 := HJ.out.1
  have p0 := B3.cell (v := .int .i64 t) 0 rfl
  have p1 := B3.cell (v := .slice a n c) 1 rfl
  have pl := B3.lt
  clear B3
  go_wp2_with fail
  refine (FI.out _ HJ.out.2.2.2).mono ?_
  rintro r V3 ⟨rfl, hb2⟩
  obtain ⟨hb, hs3⟩ := below_cc hb2 HJ.out.2.2.2
  have HI := Lib.hid (And.intro (HJ.out.1.below hb2) (And.intro (HJ.out.2.1.below hb2) (And.intro (HJ.out.2.2.1.below hb2) hb)))
  clear hb2 hb HJ FI p0 p1 pl hs2
  have B3 := HI.out.1
  have p0 := B3.cell (v := .int .i64 t) 0 rfl
  have p1 := B3.cell (v := .slice a n c) 1 rfl
  have pl := B3.lt
  clear B3
  go_wp2_with fail
  refine (CP.out _ HI.out.2.2.2).mono ?_
  rintro r V4 ⟨aE, nE, cE, rfl, hF, hb2⟩
  have hF := hF.mono (base' := w.heap.size) HI.out.2.2.2.size
  obtain ⟨hb, hs2⟩ := below_cc hb2 HI.out.2.2.2
  have HJ := Lib.hid (And.intro (HI.out.2.1.below hb2) (And.intro (HI.out.2.2.1.below hb2) (And.intro hb hF)))
  clear hb2 hb HI CP p0 p1 pl hF hs3
  go_upto_region 7 with fail
  obtain ⟨g10, hg10⟩ : ∃ g, V4.heap.size = g := ⟨_, rfl⟩
  have h10 : w.heap.size + 1 + 1 < g10 := by rw [← hg10]; exact HJ.out.2.1.lt
  refine wp_name (fun X => Bk X (w.heap.size + 1) #[.int .u8 2, .int .i64 x1, .int .i64 x2, .int .i64 x3, .int .i64 x4] 48 ∧ Bk X (w.heap.size + 1 + 1) #[.int .i64 0, .slice none 0 0] 26 ∧ Bk X V4.heap.size #[.int .i64 t, .slice aE nE cE] 26 ∧ Below w.heap.size w X ∧ Fresh w.heap.size X (.slice aE nE cE) es) ⟨HJ.out.1.alloc _, HJ.out.2.1.alloc _, Bk.made _ _ _, HJ.out.2.2.1.alloc hs2 _, HJ.out.2.2.2.below ((Below.refl _ _).alloc (Nat.le_refl _) _)⟩ ?_
  rw [hg10]
  clear HJ hs2 hg10
  rintro V5 ⟨B5, B6, B10, hb, hF⟩
  obtain ⟨ss, hFS⟩ := hF.open
  obtain ⟨gE, capE, xa, xn, xc, hvE, hss, q0, q1, hRow⟩ := hFS.ent HQ.out.2.1
  injection hvE with w1 w2 w3
  subst w1 w2 w3
  rw [Nat.zero_add] at q0 q1
  obtain ⟨g, cap', cur, hsv, hgb, hBg, hfz, hc0, hc1, hc2⟩ := hRow.comp HQ.out.2.2.1
  injection hsv with w1 w2 w3
  subst w1 w2 w3
  have hil2 := HN.out.2.1
  have k0 := cell_regrown (B10.cell (v := .int .i64 t) 0 rfl)
  have k1 := B10.cell (v := .slice (some ⟨gE, 0, none⟩) es.length cE) 1 rfl
  have kl := B10.lt
  have z0 := B5.cell (v := .int .u8 2) 0 rfl
  have z1 := B5.cell (v := .int .i64 x1) 1 rfl
  have z2 := B5.cell (v := .int .i64 x2) 2 rfl
  have z3 := B5.cell (v := .int .i64 x3) 3 rfl
  have z4 := B5.cell (v := .int .i64 x4) 4 rfl
  have zl := B5.lt
  have HJ := Lib.hid (And.intro B5 (And.intro B6 (And.intro B10 (And.intro hb (And.intro hFS (And.intro hss (And.intro hRow (And.intro hgb (show ∃ cur, Bk V5 g cur 48 from ⟨_, hBg⟩)))))))))
  clear hb hF B5 B6 B10 hFS hss hRow hgb hBg hfz hc0 hc1 hc2 k0
  go_upto_region 8 with fail
  have q1' := cell_regrown q1
  have z0' := cell_regrown z0
  refine wp_region_low2 (post1 48 (fun _ v _ _ => v = .tuple #[.int .i64 j, .bool true])) 11 (by kernel_rfl) (by kernel_rfl) ?_
  simp only [List.take, List.drop]
  iterate 6 (refine low2_step (fun K hK => ?_); go_simp; first | (refine hK _ ?_; clear hK K) | (apply Exists.intro; refine ⟨fun p => ?_, hK _ ?_⟩; clear hK K))
  refine low2_call 48 #[.slice (some ⟨g, 0, none⟩) e.cs.length xc, .int .u8 2, .func (.func 49) #[] #[]] (fun _ v _ _ => v = .tuple #[.int .i64 j, .bool true]) (by rfl) (fun w => by go_simp) (post1_same _ _) (fun V hV _ => ?_) ?_
  · exact (PL.out V _ (HJ.out.2.2.2.2.2.2.1.comps.below hV)).mono fun r w' ⟨hr, hb⟩ => ⟨_, hr, rfl, hb⟩
  rintro v6 ⟨_, _, -, rfl⟩
  iterate 4 (refine low2_step (fun K hK => ?_); go_simp; first | (refine hK _ ?_; clear hK K) | (apply Exists.intro; refine ⟨fun p => ?_, hK _ ?_⟩; clear hK K))
  refine low2_nil ?_
  intro V6 hC
  have hb2 := hC.1
  obtain ⟨hb, hs2⟩ := below_cc hb2 HJ.out.2.2.2.1
  have HK := Lib.hid (And.intro (HJ.out.1.below hb2) (And.intro (HJ.out.2.1.below hb2) (And.intro (HJ.out.2.2.1.below hb2) (And.intro hb (And.intro (HJ.out.2.2.2.2.1.below hb2) (And.intro HJ.out.2.2.2.2.2.1 (And.intro (HJ.out.2.2.2.2.2.2.1.below hb2) (And.intro HJ.out.2.2.2.2.2.2.2.1 (show ∃ cur, Bk V6 g cur 48 from by obtain ⟨c', hc'⟩ := HJ.out.2.2.2.2.2.2.2.2; exact ⟨c', hc'.below hb2⟩)))))))))
  replace q1 := cell_later hb2 q1
  replace z0 := cell_later hb2 z0
  replace z1 := cell_later hb2 z1
  replace z2 := cell_later hb2 z2
  replace z3 := cell_later hb2 z3
  replace z4 := cell_later hb2 z4
  clear hb2 hb HJ PL hC q1' z0' k1 kl q0 zl
  have hjl := HQ.out.1.1
  go_upto_region 10 with fail
  have q1' := cell_regrown q1
  have z0' := cell_regrown z0
  have z1' := cell_regrown z1
  have z2' := cell_regrown z2
  have z3' := cell_regrown z3
  have z4' := cell_regrown z4
  refine wp_region_low2 noPosts 7 (by kernel_rfl) (by kernel_rfl) ?_
  simp only [List.take, List.drop]
  iterate 7 (refine low2_step (fun K hK => ?_); go_simp; first | (refine hK _ ?_; clear hK K) | (apply Exists.intro; refine ⟨fun p => ?_, hK _ ?_⟩; clear hK K))
  refine low2_nil ?_
  intro V7 hC
  have hb2 := hC.1
  obtain ⟨hb, hs3⟩ := below_cc hb2 HK.out.2.2.2.1
  obtain ⟨cu, hcu6⟩ := HK.out.2.2.2.2.2.2.2.2
  have hcu := hcu6.below hb2
  have hRow := HK.out.2.2.2.2.2.2.1.below hb2
  have hFS := HK.out.2.2.2.2.1.below hb2
  have B10 := HK.out.2.2.1.below hb2
  have B6 := HK.out.2.1.below hb2
  have hgb := HK.out.2.2.2.2.2.2.2.1
  have hss := HK.out.2.2.2.2.2.1
  have ng10 : g10 ≠ g := bk_types B10 hcu (by decide)
  have ng6 : w.heap.size + 1 + 1 ≠ g := bk_types B6 hcu (by decide)
  have hgr := grown5 (w := V7) g (j * 5) (j * 5 + 1) (j * 5 + 1 + 1) (j * 5 + 1 + 2) (j * 5 + 1 + 3) (.int .u8 2) (.int .i64 x1) (.int .i64 x2) (.int .i64 x3) (.int .i64 x4)
  have hR5 := hRow.put5 HQ.out.2.2.1 ⟨2, x1, x2, x3, x4⟩ HQ.out.2.2.2.symm
  have hFT := hFS.turn (e' := ⟨e.id, e.cs.set j ⟨2, x1, x2, x3, x4⟩⟩) HQ.out.2.1 hss hgr hR5 rfl
  have HX := Lib.hid (And.intro (bk_grown hgr B10 ng10) (And.intro (bk_grown hgr B6 ng6) (And.intro hFT.shut (hb.grown hgr hs3 (fun k q => by cases q; exact hgb)))))
  obtain ⟨g', cap', cur', hsv, -, -, -, hc0, hc1, hc2⟩ := hRow.comp HQ.out.2.2.1
  injection hsv with w1 w2 w3
  injection w1 with w1
  injection w1 with w1
  subst w1
  rw [Nat.zero_add] at hc0 hc1 hc2
  have hcs := hRow.comps
  rcases hcs with ⟨h1, h2⟩ | ⟨b5, o5, cap5, h1, hl5, hc5⟩
  · have := HQ.out.2.2.1
    rw [h2] at this; cases this
  injection h1 with v1 v2 v3
  injection v1 with v1
  injection v1 with v1 v1' v1''
  subst v1 v1'
  obtain ⟨⟨y0, y1, y2, y3, y4⟩, -⟩ := hc5 j v HQ.out.2.2.1
  rw [Nat.zero_add] at y0 y1 y2 y3 y4
  have f0 := hcu.free (j * 5)
  have f1 := hcu.free (j * 5 + 1)
  have f2 := hcu.free (j * 5 + 2)
  have f3 := hcu.free (j * 5 + 3)
  have f4 := hcu.free (j * 5 + 4)
  have ltg := hcu.lt
  clear hRow hFS B10 B6 hgb hss hgr hR5 hFT hc0 hc1 hc2 hc5 hl5 hb2 hb hC hcu6 hcu HK q1' z0' z1' z2' z3' z4' z0 z1 z2 z3 z4 q1 hs2 hs3 ng10 ng6 w2 w3 v2 v3 v1''
  go_upto_region 12 with fail
  refine wp_name (fun X => Bk X g10 #[.int .i64 t, .slice (some ⟨gE, 0, none⟩) es.length cE] 26 ∧ Bk X (w.heap.size + 1 + 1) #[.int .i64 0, .slice none 0 0] 26 ∧ Fresh w.heap.size X (.slice (some ⟨gE, 0, none⟩) es.length cE) (es.set i ⟨e.id, e.cs.set j ⟨2, x1, x2, x3, x4⟩⟩) ∧ Below w.heap.size w X) HX.out ?_
  clear HX y0 y1 y2 y3 y4 f0 f1 f2 f3 f4 ltg
  rintro V9 ⟨B10, B6, hF, hb⟩
  have p0 := B10.cell (v := .int .i64 t) 0 rfl
  have p1 := B10.cell (v := .slice (some ⟨gE, 0, none⟩) es.length cE) 1 rfl
  have pl := B10.lt
  have r0 := B6.cell (v := .int .i64 0) 0 rfl
  have r1 := B6.cell (v := .slice none 0 0) 1 rfl
  have f0 := B6.free 0
  have f1 := B6.free 1
  have lt := B6.lt
  have E0 := B6.put 0 (.int .i64 t)
  have hw2 : w.heap.size ≤ w.heap.size + 1 + 1 := by omega
  have HX := Lib.hid (And.intro (E0.put 1 (.slice (some ⟨gE, 0, none⟩) es.length cE)) (And.intro ((hF.set (p := ⟨w.heap.size + 1 + 1, 0, none⟩) B6 (by decide) (by decide) (.int .i64 t)).set (p := ⟨w.heap.size + 1 + 1, 1, none⟩) E0 (by decide) (by decide) (.slice (some ⟨gE, 0, none⟩) es.length cE)) ((hb.setCell (p := ⟨w.heap.size + 1 + 1, 0, none⟩) hw2 (.int .i64 t)).setCell (p := ⟨w.heap.size + 1 + 1, 1, none⟩) hw2 (.slice (some ⟨gE, 0, none⟩) es.length cE))))
  clear E0 hF hb B6 B10 hw2
  go_wp2
  refine post_name (fun V => Bk V (w.heap.size + 1 + 1) #[.int .i64 t, .slice (some ⟨gE, 0, none⟩) es.length cE] 26 ∧ Fresh w.heap.size V (.slice (some ⟨gE, 0, none⟩) es.length cE) (es.set i ⟨e.id, e.cs.set j ⟨2, x1, x2, x3, x4⟩⟩) ∧ Below w.heap.size w V) HX.out ?_
  clear HX p0 p1 pl r0 r1 f0 f1 lt
  rintro V10 ⟨BV, hFV, hbV⟩
  have y0 := BV.cell (v := .int .i64 t) 0 rfl
  have y1 := BV.cell (v := .slice (some ⟨gE, 0, none⟩) es.length cE) 1 rfl
  exact bodyPost_ret (v := .tuple #[Wv t (some ⟨gE, 0, none⟩) es.length cE, .int .i64 0]) (by simp [results, Tryz.results28, go_sem, y0, y1]; try rfl) rfl ⟨some ⟨gE, 0, none⟩, es.length, cE, rfl, hFV, hbV⟩
/-! ExactKit -/
set_option maxRecDepth 100000
attribute [local go_sem] opLow opUpon opLow2 opUpon2 opLow3

/-- a variable of a world: its block, and what it holds: the world at hand first, or one of the calls' own -/
structure LA (U : World) (g : Nat) (t : Int) (v0 : Value) (es0 : List Ent) (V : World) (v : Value) (es : List Ent) : Prop where
  bel : Below U.heap.size U V
  blk : Bk V g #[.int .i64 t, v] 26
  wat : (v = v0 ∧ es = es0) ∨ Fresh U.heap.size V v es
theorem LA.below {U : World} {g : Nat} {t : Int} {v0 : Value} {es0 : List Ent} {V V' : World} {v : Value} {es : List Ent} (h : LA U g t v0 es0 V v es) (hb : Below V.heap.size V V') : LA U g t v0 es0 V' v es :=
  ⟨(below_cc hb h.bel).1, h.blk.below hb, h.wat.imp id (fun q => q.below hb)⟩
theorem LA.ents {U : World} {g : Nat} {t : Int} {v0 : Value} {es0 : List Ent} {V : World} {v : Value} {es : List Ent} (h : LA U g t v0 es0 V v es) (h0 : EntsAt U v0 es0) : EntsAt V v es := by
  rcases h.wat with ⟨rfl, rfl⟩ | q
  · exact EntsAt.below h0 h.bel
  · exact q.ents
theorem LA.start (U : World) (t : Int) (v0 : Value) (es0 : List Ent) : LA U U.heap.size t v0 es0 (U.alloc (.cells #[.int .i64 t, v0] 26)) v0 es0 :=
  ⟨(Below.refl _ _).alloc (Nat.le_refl _) _, Bk.made _ _ _, .inl ⟨rfl, rfl⟩⟩
theorem LA.store {U : World} {g : Nat} {t : Int} {v0 : Value} {es0 : List Ent} {V : World} {v : Value} {es : List Ent} (h : LA U g t v0 es0 V v es) (hg : U.heap.size ≤ g) {v' : Value} {es' : List Ent} (hF : Fresh U.heap.size V v' es') :
    LA U g t v0 es0 ((V.setCell ⟨g, 0, none⟩ (.int .i64 t)).setCell ⟨g, 1, none⟩ v') v' es' :=
  ⟨(h.bel.setCell (p := ⟨g, 0, none⟩) hg _).setCell (p := ⟨g, 1, none⟩) hg _, Bk.puts2 h.blk, .inr ((hF.set (p := ⟨g, 0, none⟩) h.blk (by decide) (by decide) _).set (p := ⟨g, 1, none⟩) (h.blk.put 0 _) (by decide) (by decide) _)⟩
theorem dropW_zero (W : Wld) (id : Int) : (dropW W id 0).es = W.es := by
  unfold dropW headL
  simp
theorem keyC_dec (k : Int) (e : Ent) : e.cs.find? (fun x => decide (x.k = k)) = e.cs.find? (keyC k) := by rw [keyC_fun]
theorem mvW_get {W : Wld} (hV : Valid W) {X Y id : Int} {i j : Nat} {e : Ent} (h : (ownM W id)[j]? = some e.id) (he : W.es[i]? = some e) : (mvW W X Y ((ownM W id).take j)).es[i]? = some e := mvW_at hV h he
theorem okP_gen {W : Wld} {id gx gy : Int} (h : okP W id gx gy = true) : numB id = true ∧ okG gx gy := by
  unfold okP pullB at h
  simp only [Bool.and_eq_true, decide_eq_true_eq] at h
  refine ⟨h.2.1, ?_⟩
  unfold okG
  omega
theorem ex_get (W : Wld) (id : Int) (i : Nat) (a : Option Addr) (n c : Nat) (V : World) (hR : RG V) (hE : EntsAt V (.slice a n c) (dropW W id i).es) (hV : Valid W) {e : Ent} (he : W.es[i]? = some e) :
    ∃ (o : Cmp) (ok : Bool), Calls Tryz.prog 17 #[.agg #[.int .i64 W.t, .slice a n c], .int .i64 e.id, .int .u8 4] V (fun r V' => r = .returned (.tuple #[.agg #[.int .u8 o.k, .int .i64 o.a, .int .i64 o.b, .int .i64 o.c, .int .i64 o.d], .bool ok]) ∧ Below V.heap.size V V') ∧ (ok && decide (o.a = id)) = ownB id e := by
  have hv := drop_valid hV id i
  have hat := dropW_at W id he
  have h1 := getM_at hv hat 4
  have h2 := mine_own (hV.2.2.2 e (List.mem_iff_getElem?.2 ⟨i, he⟩)) id
  have hc := get_any (dropW W id i) a n c e.id 4 V hR hE hv
  rcases hg : getM (dropW W id i) e.id 4 with _ | o
  · rw [← h1, hg] at h2
    rw [getV_none hg] at hc
    exact ⟨⟨0, 0, 0, 0, 0⟩, false, hc, by rw [Bool.false_and]; exact h2⟩
  · rw [← h1, hg] at h2
    rw [getV_some hg] at hc
    exact ⟨o, true, hc, by rw [Bool.true_and]; exact h2⟩
def WF2 (V : World) (t : Int) (es : List Ent) (z : Int) (r : Ending) (V' : World) : Prop :=
  ∃ a n c, r = .returned (.tuple #[.agg #[.int .i64 t, .slice a n c], .int .i64 z]) ∧ Fresh V.heap.size V' (.slice a n c) es ∧ Below V.heap.size V V'
theorem ex_unset (W : Wld) (id : Int) (i : Nat) (a : Option Addr) (n c : Nat) (V : World) (hR : RG V) (hE : EntsAt V (.slice a n c) (dropW W id i).es) (hV : Valid W) {e : Ent} {v : Cmp} (he : W.es[i]? = some e) (ho : ownB id e = false) (hv : e.cs.find? (keyC 2) = some v) :
    Calls Tryz.prog 26 #[.agg #[.int .i64 W.t, .slice a n c], .int .i64 e.id, .int .u8 2] V (WF2 V W.t (dropW W id (i + 1)).es 0) := by
  have h := unset_ok (dropW W id i) a n c V hR hE (drop_valid hV id i) (dropW_at W id he) hv
  rw [dropW_some he ho]
  exact h
theorem ex_unset_none (W : Wld) (id : Int) (i : Nat) (a : Option Addr) (n c : Nat) (V : World) (hR : RG V) (hE : EntsAt V (.slice a n c) (dropW W id i).es) (hV : Valid W) {e : Ent} (he : W.es[i]? = some e) (hv : e.cs.find? (keyC 2) = none) :
    Calls Tryz.prog 26 #[.agg #[.int .i64 W.t, .slice a n c], .int .i64 e.id, .int .u8 2] V (WF2 V 0 [] 6) :=
  unset_none (dropW W id i) a n c V hR hE (drop_valid hV id i) (dropW_at W id he) hv
theorem ex_unset_bad (W : Wld) (id : Int) (a : Option Addr) (n c : Nat) (V : World) (hR : RG V) (hE : EntsAt V (.slice a n c) W.es) (hV : ¬ Valid W) :
    Calls Tryz.prog 26 #[.agg #[.int .i64 W.t, .slice a n c], .int .i64 id, .int .u8 2] V (WF2 V 0 [] 2) := unset_bad W a n c id V hR hE hV
theorem ex_get_bad (W : Wld) (id : Int) (a : Option Addr) (n c : Nat) (V : World) (hR : RG V) (hE : EntsAt V (.slice a n c) W.es) (hV : ¬ Valid W) :
    Calls Tryz.prog 17 #[.agg #[.int .i64 W.t, .slice a n c], .int .i64 id, .int .u8 4] V (fun r V' => r = .returned (.tuple #[.agg #[.int .u8 0, .int .i64 0, .int .i64 0, .int .i64 0, .int .i64 0], .bool false]) ∧ Below V.heap.size V V') := get_bad W a n c id 4 V hR hE hV
theorem ex_pred (W : Wld) (a : Option Addr) (n c : Nat) (id gx gy : Int) (x : Inp) (V : World) (hR : RG V) (hM : RM V) (hw : 2 ≤ V.heap.size) (hE : EntsAt V (.slice a n c) W.es) (hX : I64 x.mx ∧ I64 x.my) {R : Wld} {z : Int} (hr : predR W id gx gy x = (R, z)) :
    Calls Tryz.prog 14 #[.agg #[.int .i64 W.t, .slice a n c], .int .i64 id, .agg #[.int .i64 gx, .int .i64 gy], .agg #[.int .i64 x.c, .int .i64 x.s, .int .i64 x.t, .int .i64 x.mx, .int .i64 x.my, .bool x.fire, .int .i64 x.ax, .int .i64 x.ay, .int .i64 x.seen, .int .i64 x.part]] V (WF2 V R.t R.es z) := by
  have := predict_fresh W a n c id gx gy x V hR hM hw hE hX
  rw [hr] at this
  exact this
theorem ex_own (W : Wld) (a : Option Addr) (n c : Nat) (id : Int) (V : World) (hR : RG V) (hE : EntsAt V (.slice a n c) W.es) (hV : Valid W) (hn : numB id = true) :
    Calls Tryz.prog 21 #[.agg #[.int .i64 W.t, .slice a n c], .int .i64 id] V (OwnPost V W id) := own_ok W a n c id V hR hE hV hn
/-- the speed of an entity of the client behind the predicted tick -/
theorem ex_vel {W : Wld} {id gx gy : Int} {x : Inp} (hV : Valid W) {R : Wld} (hRW : R = predW W id gx gy x) (hVR : Valid R) {i : Nat} {e : Ent} (he : W.es[i]? = some e) (a : Option Addr) (n c : Nat) (V : World) (hR : RG V) (hE : EntsAt V (.slice a n c) R.es) :
    (e.cs.find? (keyC 2) = none → Calls Tryz.prog 17 #[.agg #[.int .i64 R.t, .slice a n c], .int .i64 e.id, .int .u8 2] V (fun r V' => r = .returned (.tuple #[.agg #[.int .u8 0, .int .i64 0, .int .i64 0, .int .i64 0, .int .i64 0], .bool false]) ∧ Below V.heap.size V V')) ∧
    (∀ v, e.cs.find? (keyC 2) = some v → ∃ u : Cmp, Calls Tryz.prog 17 #[.agg #[.int .i64 R.t, .slice a n c], .int .i64 e.id, .int .u8 2] V (fun r V' => r = .returned (.tuple #[.agg #[.int .u8 u.k, .int .i64 u.a, .int .i64 u.b, .int .i64 u.c, .int .i64 u.d], .bool true]) ∧ Below V.heap.size V V') ∧ ∀ X Y, (⟨u.k, X, Y, u.c, u.d⟩ : Cmp) = putXY X Y v) := by
  have hc := get_any R a n c e.id 2 V hR hE hVR
  obtain ⟨h1, h2⟩ := got_vel (id := id) (gx := gx) (gy := gy) (x := x) hV (by rw [← hRW]; exact hVR) he
  rw [← hRW] at h1 h2
  refine ⟨fun hn => ?_, fun v hv => ?_⟩
  · rw [getV_none (h1 hn)] at hc
    exact hc
  · obtain ⟨u, hu, hq⟩ := h2 v hv
    rw [getV_some hu] at hc
    exact ⟨u, hc, hq⟩
theorem ex_set (W : Wld) (X Y id : Int) (hX : -4096 ≤ X ∧ X ≤ 4096) (hY : -4096 ≤ Y ∧ Y ≤ 4096) (a : Option Addr) (n c : Nat) (V : World) (hR : RG V) (hV : Valid W) {i j : Nat} {e : Ent} {v u : Cmp} (hE : EntsAt V (.slice a n c) (mvW W X Y ((ownM W id).take j)).es) (h : (ownM W id)[j]? = some e.id) (he : W.es[i]? = some e) (hv : e.cs.find? (keyC 2) = some v) (hu : (⟨u.k, X, Y, u.c, u.d⟩ : Cmp) = putXY X Y v) :
    Calls Tryz.prog 28 #[.agg #[.int .i64 W.t, .slice a n c], .int .i64 e.id, .agg #[.int .u8 u.k, .int .i64 X, .int .i64 Y, .int .i64 u.c, .int .i64 u.d]] V (WF2 V W.t (mvW W X Y ((ownM W id).take (j + 1))).es 0) := by
  obtain ⟨f2, k2⟩ := find_fits (hV.2.2.2 e (List.mem_iff_getElem?.2 ⟨i, he⟩)).2.2 hv
  have hc := set_ok (mvW W X Y ((ownM W id).take j)) a n c V hR hE (mv_valid hX hY hV _) (mvW_at hV h he) hv ⟨u.k, X, Y, u.c, u.d⟩ (by rw [hu]; rfl) (by rw [hu]; exact fits_put2 f2 k2 hX hY)
  rw [mvW_put hV h he hv, ← hu]
  exact hc
theorem ex_world (W : Wld) (hV : Valid W) (a : Option Addr) (n c : Nat) (gx gy : Int) (hg : okG gx gy) (V : World) (hM : RM V) (hw : 2 ≤ V.heap.size) (hE : EntsAt V (.slice a n c) W.es) :
    Calls Tryz.prog 29 #[.agg #[.int .i64 W.t, .slice a n c], .slice none 0 0, .agg #[.int .i64 gx, .int .i64 gy]] V (fun r V' => ∃ a n c sa sn sc, r = .returned (.tuple #[.agg #[.int .i64 W.t, .slice a n c], .slice sa sn sc, .int .i64 0]) ∧ Fresh V.heap.size V' (.slice a n c) (worldM gx gy W.es) ∧ Below V.heap.size V V') :=
  world_any W.t W.es a n c gx gy V hM hw hE hV.2.1 (fun e he => (hV.2.2.2 e he).1) (fun e he => (hV.2.2.2 e he).2.2) hV.2.2.1 hg
theorem lim_bd (x y : Int) : (-4096 ≤ limX x y ∧ limX x y ≤ 4096) ∧ -4096 ≤ limY x y ∧ limY x y ≤ 4096 := by
  rw [(lim_wst x y).1, (lim_wst x y).2]
  exact ⟨wst64 x y, wst64' x y⟩
end Go.Proofs.YtlcjkomfjgddeaaGreatDoor
