/- The plain law of ClientReconciles. -/
import Derived.Test.YtlcjkomfjgddeaaGreatDoorPushPlain
import Derived.Test.YtlcjkomfjgddeaaGreatDoorM37
set_option linter.unusedVariables false
set_option linter.unusedSimpArgs false
namespace Go.Proofs.YtlcjkomfjgddeaaGreatDoor
open Go Go.RowKit Go.Sort

theorem left_drop (id : Int) : ∀ (k : Nat) (l : List Inp) (a : Int), risB id a l = true → l.filter (leftB (lastS a (l.take k))) = l.drop k
  | 0, l, a, h => by
    rw [List.take_zero, lastS, List.drop_zero]
    exact left_high id l a h (Int.le_refl _)
  | k + 1, [], a, h => rfl
  | k + 1, x :: l, a, h => by
    simp only [risB, Bool.and_eq_true, decide_eq_true_eq] at h
    have h2 : risB id x.s (l.take k) = true := by
      have := risB_take id l x.s k h.2
      exact this
    have h3 := lastS_ge id (l.take k) x.s h2
    rw [List.take_succ_cons, lastS, List.drop_succ_cons, List.filter_cons, if_neg (fun q => by have := (left_iff _ x).1 q; omega)]
    exact left_drop id k l x.s h.2
where
  risB_take (id : Int) : ∀ (l : List Inp) (a : Int) (k : Nat), risB id a l = true → risB id a (l.take k) = true
    | _, _, 0, _ => by rw [List.take_zero]; rfl
    | [], _, k + 1, _ => rfl
    | x :: l, a, k + 1, h => by
      simp only [risB, Bool.and_eq_true, decide_eq_true_eq] at h
      rw [List.take_succ_cons]
      simp only [risB, Bool.and_eq_true, decide_eq_true_eq]
      exact ⟨h.1, risB_take id l x.s k h.2⟩
theorem lastS_take_ge {c : Cli} (h : validC c = true) (k : Nat) : c.ack ≤ lastS c.ack (c.p.take k) :=
  lastS_ge c.id _ _ (left_drop.risB_take c.id c.p c.ack k (validC_parts h).2.2.2.2.2)
/-- the world behind the first inputs, as predicted -/
def srv (c : Cli) (k : Nat) : Wld := (viewM c.id c.gx c.gy (c.p.take k) c.b).1
def lst (c : Cli) (k : Nat) : Int := lastS c.ack (c.p.take k)
theorem viewR_of {c : Cli} (h : validC c = true) : viewR c = viewM c.id c.gx c.gy c.p c.b := by unfold viewR; rw [h, if_pos rfl]
theorem view_tick {id gx gy : Int} : ∀ (l : List Inp) {W R : Wld}, viewM id gx gy l W = (R, 0) → W.t ≤ R.t
  | [], W, R, h => by
    rw [viewM] at h
    cases h; exact Int.le_refl _
  | x :: l, W, R, h => by
    rw [viewM] at h
    by_cases h1 : (predR W id gx gy x).2 = 0
    · rw [if_pos h1] at h
      have h2 := view_tick l h
      have h3 := predR_ok (R := (predR W id gx gy x).1) (by rw [← h1])
      have h4 := h3.2.2.1
      have h5 : (predW W id gx gy x).t = W.t + 1 := rfl
      rw [← h4] at h5
      omega
    · rw [if_neg h1] at h
      exact absurd (congrArg Prod.snd h) h1
theorem srv_ok {c : Cli} {V : Wld} (hv : validC c = true) (h : viewR c = (V, 0)) (k : Nat) : viewM c.id c.gx c.gy (c.p.take k) c.b = (srv c k, 0) ∧ viewM c.id c.gx c.gy (c.p.drop k) (srv c k) = (V, 0) := by
  rw [viewR_of hv] at h
  have h1 := view_app c.id c.gx c.gy (c.p.drop k) (c.p.take k) c.b
  rw [List.take_append_drop, h] at h1
  by_cases h2 : (viewM c.id c.gx c.gy (c.p.take k) c.b).2 = 0
  · rw [if_pos h2] at h1
    exact ⟨by unfold srv; rw [← h2], h1.symm⟩
  · rw [if_neg h2] at h1
    exact absurd (congrArg Prod.snd h1.symm) h2
theorem srv_valid {c : Cli} {V : Wld} (hv : validC c = true) (h : viewR c = (V, 0)) (k : Nat) : Valid (srv c k) :=
  view_valid _ (validC_parts hv).2.2.1 (srv_ok hv h k).1
theorem srv_zero (c : Cli) : srv c 0 = c.b := rfl
theorem lst_zero (c : Cli) : lst c 0 = c.ack := rfl
theorem srv_step {c : Cli} {V : Wld} (hv : validC c = true) (h : viewR c = (V, 0)) {k : Nat} {x : Inp} (hx : c.p[k]? = some x) : predR (srv c k) c.id c.gx c.gy x = (srv c (k + 1), 0) := by
  have h1 := (srv_ok hv h (k + 1)).1
  have h2 := (srv_ok hv h k).1
  rw [take_succ hx, view_snoc, h2, if_pos rfl] at h1
  exact h1
theorem lst_step {c : Cli} {k : Nat} {x : Inp} (hx : c.p[k]? = some x) : lst c (k + 1) = x.s := by
  unfold lst
  rw [take_succ hx, lastS_snoc]
/-- the client behind the server's world -/
def rcv (c : Cli) (k : Nat) : Cli := ⟨c.id, c.gx, c.gy, srv c k, lst c k, c.p.drop k⟩
theorem rcv_ok {c : Cli} {V : Wld} (hv : validC c = true) (h : viewR c = (V, 0)) (k : Nat) : recvR c (srv c k) (lst c k) = (rcv c k, 0) := by
  have h1 := srv_valid hv h k
  have h2 : c.b.t ≤ (srv c k).t := view_tick _ (srv_ok hv h k).1
  have h3 : c.ack ≤ lst c k := lastS_take_ge hv k
  unfold recvR
  rw [if_pos ⟨hv, h1⟩, if_neg (by omega)]
  unfold rcv
  rw [show c.p.filter (leftB (lst c k)) = c.p.drop k from left_drop c.id k c.p c.ack (validC_parts hv).2.2.2.2.2]
theorem rcv_valid {c : Cli} {V : Wld} (hv : validC c = true) (h : viewR c = (V, 0)) (k : Nat) : validC (rcv c k) = true := by
  obtain ⟨h1, h2, h3, h4, h5, h6⟩ := validC_parts hv
  have h7 : c.ack ≤ lst c k := lastS_take_ge hv k
  unfold validC
  simp only [Bool.and_eq_true, decide_eq_true_eq]
  refine ⟨h1, h2, srv_valid hv h k, ?_, ?_, ?_⟩
  · show 0 ≤ lst c k
    omega
  · show (c.p.drop k).length ≤ 64
    rw [List.length_drop]; omega
  · show risB c.id (lst c k) (c.p.drop k) = true
    rw [← left_drop c.id k c.p c.ack h6]
    exact left_ris c.id _ c.p c.ack h6
theorem rcv_view {c : Cli} {V : Wld} (hv : validC c = true) (h : viewR c = (V, 0)) (k : Nat) : viewR (rcv c k) = (V, 0) := by
  rw [viewR_of (rcv_valid hv h k)]
  exact (srv_ok hv h k).2
theorem rcv_shift {c : Cli} {V : Wld} (hv : validC c = true) (h : viewR c = (V, 0)) (k : Nat) (id : Int) : shiftR c (srv c k) (lst c k) id = if (getM V id 1).isSome then ((0, 0), 0) else ((0, 0), 6) := by
  unfold shiftR
  rw [if_pos ⟨hv, srv_valid hv h k⟩, h, if_pos rfl, rcv_ok hv h k, if_pos rfl]
  simp only
  rw [rcv_view hv h k, if_pos rfl]
  simp only
  cases getM V id 1 with
  | none => simp
  | some p => simp
/-- the client without inputs -/
def alone (c : Cli) : Cli := ⟨c.id, c.gx, c.gy, c.b, c.ack, []⟩
theorem alone_view {c : Cli} (hv : validC c = true) : viewR (alone c) = (c.b, 0) := by
  obtain ⟨h1, h2, h3, h4, h5, h6⟩ := validC_parts hv
  have : validC (alone c) = true := by
    unfold validC
    simp only [Bool.and_eq_true, decide_eq_true_eq]
    exact ⟨h1, h2, h3, h4, by show 0 ≤ 64; omega, rfl⟩
  rw [viewR_of this]
  rfl
end Go.Proofs.YtlcjkomfjgddeaaGreatDoor
