/- The plain law of ClientSteps. -/
import Derived.Test.YtlcjkomfjgddeaaGreatDoorM36
set_option linter.unusedVariables false
set_option linter.unusedSimpArgs false
namespace Go.Proofs.YtlcjkomfjgddeaaGreatDoor
open Go Go.RowKit Go.Sort

theorem predR_err {W : Wld} {id gx gy : Int} {x : Inp} (h : ¬ (predR W id gx gy x).2 = 0) : predR W id gx gy x = (⟨0, []⟩, (predR W id gx gy x).2) := by
  unfold predR at h ⊢
  split
  · split
    · rename_i h1 h2
      rw [if_pos h1, if_pos h2] at h
      exact absurd rfl h
    · rfl
  · rfl
theorem view_app (id gx gy : Int) (k : List Inp) : ∀ (l : List Inp) (W : Wld), viewM id gx gy (l ++ k) W = if (viewM id gx gy l W).2 = 0 then viewM id gx gy k (viewM id gx gy l W).1 else (⟨0, []⟩, (viewM id gx gy l W).2)
  | [], W => by rw [List.nil_append, viewM, if_pos rfl]
  | x :: l, W => by
    rw [List.cons_append, viewM, viewM]
    by_cases h : (predR W id gx gy x).2 = 0
    · rw [if_pos h, if_pos h]
      exact view_app id gx gy k l _
    · rw [if_neg h, if_neg h]
      simp only
      rw [if_neg h]
theorem view_one (id gx gy : Int) (x : Inp) (W : Wld) : viewM id gx gy [x] W = predR W id gx gy x := by
  rw [viewM]
  by_cases h : (predR W id gx gy x).2 = 0
  · rw [if_pos h, viewM, ← h]
  · rw [if_neg h]; exact (predR_err h).symm
theorem view_snoc (id gx gy : Int) (l : List Inp) (x : Inp) (W : Wld) : viewM id gx gy (l ++ [x]) W = if (viewM id gx gy l W).2 = 0 then predR (viewM id gx gy l W).1 id gx gy x else (⟨0, []⟩, (viewM id gx gy l W).2) := by
  rw [view_app, view_one]
theorem pred_errs {W : Wld} {id gx gy : Int} {x : Inp} (hV : Valid W) (hn : numB id = true) (hp : pullB gx gy = true) : (predR W id gx gy x).2 = 0 ∨ (predR W id gx gy x).2 = 271 := by
  unfold predR okP
  rw [decide_eq_true hV, hn, hp, if_pos (by simp)]
  split
  · left; rfl
  · right; rfl
theorem view_errs {id gx gy : Int} (hn : numB id = true) (hp : pullB gx gy = true) : ∀ (l : List Inp) {W : Wld}, Valid W → (viewM id gx gy l W).2 = 0 ∨ (viewM id gx gy l W).2 = 271
  | [], W, hV => .inl rfl
  | x :: l, W, hV => by
    rw [viewM]
    by_cases h : (predR W id gx gy x).2 = 0
    · rw [if_pos h]
      have hp' : predR W id gx gy x = ((predR W id gx gy x).1, 0) := by rw [← h]
      have := predR_ok hp'
      refine view_errs hn hp l ?_
      rw [this.2.2.1]
      exact pred_valid hV this.2.1
    · rw [if_neg h]
      exact pred_errs hV hn hp
theorem validC_parts {c : Cli} (h : validC c = true) : numB c.id = true ∧ pullB c.gx c.gy = true ∧ Valid c.b ∧ 0 ≤ c.ack ∧ c.p.length ≤ 64 ∧ risB c.id c.ack c.p = true := by
  unfold validC at h
  simpa only [Bool.and_eq_true, decide_eq_true_eq] using h
theorem validC_less {c : Cli} {l : List Inp} {x : Inp} (h : validC c = true) (hp : c.p = l ++ [x]) : validC ⟨c.id, c.gx, c.gy, c.b, c.ack, l⟩ = true := by
  obtain ⟨h1, h2, h3, h4, h5, h6⟩ := validC_parts h
  rw [hp] at h5 h6
  rw [risB_push] at h6
  simp only [Bool.and_eq_true] at h6
  rw [List.length_append] at h5
  unfold validC
  simp only [Bool.and_eq_true, decide_eq_true_eq]
  exact ⟨h1, h2, h3, h4, by omega, h6.1⟩
theorem last_of {l : List Inp} {m : Nat} (h : l.length = m + 1) : ∃ l' x, l = l' ++ [x] ∧ l'.length = m ∧ l[m]? = some x := by
  rcases List.eq_nil_or_concat l with h1 | ⟨l', x, h1⟩
  · rw [h1] at h; simp at h
  · have h2 : l'.length = m := by rw [h1] at h; simpa using h
    refine ⟨l', x, by simpa using h1, h2, ?_⟩
    rw [h1, List.concat_eq_append, List.getElem?_append_right (by omega), h2]
    simp
theorem InpsAt.less {w : World} {pa : Option Addr} {m pc : Nat} {l : List Inp} {x : Inp} (h : InpsAt w (.slice pa (m + 1) pc) (l ++ [x])) (hm : l.length = m) : InpsAt w (.slice pa m pc) l := by
  rcases h with ⟨h1, h2⟩ | ⟨b, off, cap, h1, hl, hc⟩
  · simp at h2
  · injection h1 with e1 e2 e3
    rw [List.length_append] at hl
    refine .inr ⟨b, off, pc, by rw [e1, hm], by omega, fun i y hy => hc i y ?_⟩
    have hi := (List.getElem?_eq_some_iff.1 hy).1
    rw [List.getElem?_append_left hi]; exact hy
end Go.Proofs.YtlcjkomfjgddeaaGreatDoor
