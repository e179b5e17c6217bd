/- A predicted world is valid. -/
import Derived.Test.YtlcjkomfjgddeaaGreatDoorM35
set_option linter.unusedVariables false
set_option linter.unusedSimpArgs false
namespace Go.Proofs.YtlcjkomfjgddeaaGreatDoor
open Go Go.RowKit Go.Sort

theorem findIdx_key {cs : List Cmp} {k : Int} {x : Cmp} (h : cs[cs.findIdx (keyC k)]? = some x) : x.k = k := by
  have hlt := (List.getElem?_eq_some_iff.1 h).1
  have := List.findIdx_getElem (p := keyC k) (xs := cs) (w := hlt)
  rw [(List.getElem?_eq_some_iff.1 h).2] at this
  unfold keyC at this
  simpa using this
theorem map_set_k {cs : List Cmp} {i : Nat} {x y : Cmp} (h : cs[i]? = some x) (hk : y.k = x.k) : (cs.set i y).map Cmp.k = cs.map Cmp.k := by
  apply List.ext_getElem?
  intro j
  rw [List.getElem?_map, List.getElem?_map]
  by_cases hj : i = j
  · subst hj
    rw [List.getElem?_set_self (List.getElem?_eq_some_iff.1 h).1, h]
    simp [hk]
  · rw [List.getElem?_set_ne hj]
theorem setK_kinds (k : Int) (f : Cmp → Cmp) (hf : ∀ x, (f x).k = x.k) (cs : List Cmp) : (setK k f cs).map Cmp.k = cs.map Cmp.k := by
  unfold setK
  split
  · rename_i x hx
    exact map_set_k hx (hf x)
  · rfl
theorem setK_xy (k u v : Int) (cs : List Cmp) : (setK k (putXY u v) cs).map Cmp.k = cs.map Cmp.k := setK_kinds k (putXY u v) (fun x => rfl) cs
theorem setK_fits {k : Int} {f : Cmp → Cmp} {cs : List Cmp} (h : ∀ x ∈ cs, fits x = true) (hf : ∀ x, fits x = true → x.k = k → fits (f x) = true) : ∀ x ∈ setK k f cs, fits x = true := by
  unfold setK
  split
  · rename_i y hy
    intro x hx
    rcases List.mem_or_eq_of_mem_set hx with h1 | rfl
    · exact h x h1
    · exact hf y (h y (List.mem_iff_getElem?.2 ⟨_, hy⟩)) (findIdx_key hy)
  · exact h
theorem fits_put1 {x : Cmp} (h : fits x = true) (hk : x.k = 1) {u v : Int} (hu : -1048576 ≤ u ∧ u ≤ 1048576) (hv : -1048576 ≤ v ∧ v ≤ 1048576) : fits (putXY u v x) = true := by
  obtain ⟨k, a, b, c, d⟩ := x
  simp only at hk
  subst hk
  simp only [fits, inLim, Cmp.v, putXY, Bool.and_eq_true, decide_eq_true_eq] at h ⊢
  obtain ⟨⟨h1, ⟨⟨⟨h3, h4⟩, h5⟩, h6⟩⟩, h7⟩ := h
  have e1 : lim 1 0 = (-1048576, 1048576) := by decide
  have e2 : lim 1 1 = (-1048576, 1048576) := by decide
  refine ⟨⟨⟨rfl, rfl⟩, ⟨⟨⟨?_, ?_⟩, h5⟩, h6⟩⟩, h7⟩
  · rw [e1]; exact hu
  · rw [e2]; exact hv
theorem fits_put2 {x : Cmp} (h : fits x = true) (hk : x.k = 2) {u v : Int} (hu : -4096 ≤ u ∧ u ≤ 4096) (hv : -4096 ≤ v ∧ v ≤ 4096) : fits (putXY u v x) = true := by
  obtain ⟨k, a, b, c, d⟩ := x
  simp only at hk
  subst hk
  simp only [fits, inLim, Cmp.v, putXY, Bool.and_eq_true, decide_eq_true_eq] at h ⊢
  obtain ⟨⟨h1, ⟨⟨⟨h3, h4⟩, h5⟩, h6⟩⟩, h7⟩ := h
  have e1 : lim 2 0 = (-4096, 4096) := by decide
  have e2 : lim 2 1 = (-4096, 4096) := by decide
  refine ⟨⟨⟨rfl, rfl⟩, ⟨⟨⟨?_, ?_⟩, h5⟩, h6⟩⟩, h7⟩
  · rw [e1]; exact hu
  · rw [e2]; exact hv
theorem clampC_bd (x : Int) : -1048576 ≤ clampC x ∧ clampC x ≤ 1048576 := by unfold clampC; omega
theorem flyV_bd (p v : Int) (h : -4096 ≤ v ∧ v ≤ 4096) : -4096 ≤ flyV p v ∧ flyV p v ≤ 4096 := by unfold flyV; split <;> omega
/-- an entity behind a step: its number, its kinds and its limits -/
theorem backE_ok {L : List Bdy} (hL : ∀ b ∈ L, okBdy b) {e : Ent} (hf : ∀ x ∈ e.cs, fits x = true) : (backE L e).id = e.id ∧ (backE L e).cs.map Cmp.k = e.cs.map Cmp.k ∧ ∀ x ∈ (backE L e).cs, fits x = true := by
  unfold backE
  split
  · split
    · rename_i p v h1 h2 h3
      have hv := find_fits hf h2
      have hvb := fits_vel hv.1 hv.2
      refine ⟨rfl, ?_, ?_⟩
      · simp only
        rw [setK_xy 2 _ _, setK_xy 1 _ _]
      · exact setK_fits (setK_fits hf (fun x hx hk => fits_put1 hx hk (clampC_bd _) (clampC_bd _))) (fun x hx hk => fits_put2 hx hk (flyV_bd _ _ hvb.1) (flyV_bd _ _ hvb.2))
    · exact ⟨rfl, rfl, hf⟩
  · split
    · exact ⟨rfl, rfl, hf⟩
    · rename_i b hb
      have hok := hL b (List.mem_of_find?_eq_some hb)
      split
      · refine ⟨rfl, ?_, ?_⟩
        · simp only
          rw [setK_xy 1 _ _]
        · exact setK_fits hf (fun x hx hk => fits_put1 hx hk hok.2.1.1 hok.2.1.2)
      · refine ⟨rfl, ?_, ?_⟩
        · simp only
          rw [setK_xy 2 _ _, setK_xy 1 _ _]
        · exact setK_fits (setK_fits hf (fun x hx hk => fits_put1 hx hk hok.2.1.1 hok.2.1.2)) (fun x hx hk => fits_put2 hx hk hok.2.2.1.1 hok.2.2.1.2)
theorem stillE_kinds {id X Y : Int} {e : Ent} (ho : ownB id e = true) : (stillE id X Y e).cs.map Cmp.k = e.cs.map Cmp.k := by
  unfold stillE
  split
  · rfl
  · rename_i v hv
    rw [if_pos ho]
    exact map_set_k hv rfl
/-- a predicted world is valid -/
theorem pred_valid {W : Wld} {id gx gy : Int} {x : Inp} (hV : Valid W) (ht : W.t < 1073741824) : Valid (predW W id gx gy x) := by
  obtain ⟨⟨h1, h2⟩, h3, h4, h5⟩ := hV
  have bX := wst64 x.mx x.my
  have bY := wst64' x.mx x.my
  unfold predW
  obtain ⟨X, hX⟩ : ∃ X, wst x.mx (vfar x.mx x.my) 64 = X := ⟨_, rfl⟩
  obtain ⟨Y, hY⟩ : ∃ Y, wst x.my (vfar x.mx x.my) 64 = Y := ⟨_, rfl⟩
  rw [hX, hY]
  rw [hX] at bX
  rw [hY] at bY
  have hstill : ∀ e ∈ W.es.map (stillE id X Y), (1 ≤ e.id ∧ e.id ≤ 65536) ∧ ∀ x ∈ e.cs, fits x = true := fun e he => by
    obtain ⟨e', he', rfl⟩ := List.mem_map.1 he
    have := still_ok id X Y bX bY e' (h5 e' he').2.2
    exact ⟨by rw [this.1]; exact (h5 e' he').1, this.2⟩
  have hok : ∀ b ∈ bodiesM (W.es.map (stillE id X Y)), okBdy b := fun b hb => by
    obtain ⟨e, he, hm⟩ := List.mem_filterMap.1 hb
    exact (bodyM_ok (hstill e he).1 (hstill e he).2 hm).1
  have hL := (stepB_ok (gx := gx) (gy := gy) hok (bodiesM (W.es.map (stillE id X Y))).length).1
  have hlen : (worldM gx gy (W.es.map (stillE id X Y))).length = W.es.length := by unfold worldM; simp
  have hat : ∀ i e, W.es[i]? = some e → (predM id gx gy X Y W.es)[i]? = some (takeE id e (backE (stepB gx gy (bodiesM (W.es.map (stillE id X Y))) (bodiesM (W.es.map (stillE id X Y))).length) (stillE id X Y e))) := fun i e he => by
    unfold predM worldM
    rw [List.getElem?_zipWith, he, List.getElem?_map, List.getElem?_map, he]
    rfl
  have hids : (predM id gx gy X Y W.es).map Ent.id = W.es.map Ent.id := by
    apply List.ext_getElem?
    intro i
    rw [List.getElem?_map, List.getElem?_map]
    rcases he : W.es[i]? with _ | e
    · have : (predM id gx gy X Y W.es)[i]? = none := by
        rw [List.getElem?_eq_none_iff] at he ⊢
        unfold predM
        rw [List.length_zipWith]
        omega
      rw [this]
    · rw [hat i e he]
      simp only [Option.map_some]
      congr 1
      unfold takeE
      split <;> rfl
  refine ⟨⟨by simp only; omega, by simp only; omega⟩, ?_, ?_, ?_⟩
  · simp only
    have : (predM id gx gy X Y W.es).length = W.es.length := by unfold predM; rw [List.length_zipWith, hlen]; omega
    omega
  · simp only
    rw [hids]; exact h4
  · intro e he
    simp only at he
    obtain ⟨i, hi⟩ := List.mem_iff_getElem?.1 he
    rcases hw : W.es[i]? with _ | e'
    · exfalso
      have : (predM id gx gy X Y W.es)[i]? = none := by
        rw [List.getElem?_eq_none_iff] at hw ⊢
        unfold predM
        rw [List.length_zipWith]
        omega
      rw [this] at hi; cases hi
    · rw [hat i e' hw] at hi
      injection hi with hi
      subst hi
      have hR := h5 e' (List.mem_iff_getElem?.2 ⟨i, hw⟩)
      unfold takeE
      split
      · rename_i ho
        have hs := still_ok id X Y bX bY e' hR.2.2
        have hb := backE_ok hL hs.2
        refine ⟨hR.1, ?_, hb.2.2⟩
        simp only
        rw [hb.2.1, stillE_kinds ho]
        exact hR.2.1
      · exact hR
theorem predR_ok {W R : Wld} {id gx gy : Int} {x : Inp} (h : predR W id gx gy x = (R, 0)) : Valid W ∧ W.t < 1073741824 ∧ R = predW W id gx gy x ∧ okP W id gx gy = true := by
  unfold predR at h
  split at h
  · rename_i ho
    split at h
    · rename_i ht
      injection h with h1 h2
      refine ⟨?_, ht, h1.symm, ho⟩
      unfold okP at ho
      simp only [Bool.and_eq_true, decide_eq_true_eq] at ho
      exact ho.1
    · injection h with h1 h2
      exact absurd h2 (by decide)
  · injection h with h1 h2
    exact absurd h2 (by decide)
theorem view_valid {id gx gy : Int} : ∀ (l : List Inp) {W R : Wld}, Valid W → viewM id gx gy l W = (R, 0) → Valid R
  | [], W, R, hV, h => by
    injection h with h1 h2
    rw [← h1]; exact hV
  | x :: l, W, R, hV, h => by
    rw [viewM] at h
    split at h
    · rename_i h0
      have hp : predR W id gx gy x = ((predR W id gx gy x).1, 0) := by rw [← h0]
      have := predR_ok hp
      refine view_valid l ?_ h
      rw [this.2.2.1]
      exact pred_valid hV this.2.1
    · rename_i h0
      injection h with h1 h2
      exact absurd h2 h0
theorem viewR_valid {c : Cli} {R : Wld} (h : viewR c = (R, 0)) : Valid R := by
  unfold viewR at h
  split at h
  · rename_i hv
    refine view_valid c.p ?_ h
    unfold validC at hv
    simp only [Bool.and_eq_true, decide_eq_true_eq] at hv
    exact hv.2.2.1
  · injection h with h1 h2
    exact absurd h2 (by decide)
end Go.Proofs.YtlcjkomfjgddeaaGreatDoor
