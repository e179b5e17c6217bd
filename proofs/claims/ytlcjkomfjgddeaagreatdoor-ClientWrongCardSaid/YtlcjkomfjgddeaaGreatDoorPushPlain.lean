/- The plain law of ClientPushes; what is acknowledged. -/
import Derived.Test.YtlcjkomfjgddeaaGreatDoorStepsPlain
import Derived.Test.YtlcjkomfjgddeaaGreatDoorM35
import Derived.Test.YtlcjkomfjgddeaaGreatDoorM40
import Derived.KernelRfl
set_option linter.unusedVariables false
set_option linter.unusedSimpArgs false
namespace Go.Proofs.YtlcjkomfjgddeaaGreatDoor
open Go Go.RowKit Go.Sort

theorem lastS_snoc (k : Int) (l : List Inp) (x : Inp) : lastS k (l ++ [x]) = x.s :=
  lastS_at (l ++ [x]) k l.length x (by simp) (by simp)
theorem left_iff (k : Int) (x : Inp) : leftB k x = true ↔ k < x.s := by
  unfold leftB ackB
  simp only [Bool.not_eq_true', decide_eq_false_iff_not]
  omega
theorem left_high (id : Int) {k : Int} : ∀ (l : List Inp) (a : Int), risB id a l = true → k ≤ a → l.filter (leftB k) = l
  | [], a, _, _ => rfl
  | x :: l, a, h, hk => by
    simp only [risB, Bool.and_eq_true, decide_eq_true_eq] at h
    rw [List.filter_cons, if_pos ((left_iff k x).2 (by omega)), left_high id l x.s h.2 (by omega)]
theorem left_ris (id : Int) (k : Int) : ∀ (l : List Inp) (a : Int), risB id a l = true → risB id k (l.filter (leftB k)) = true
  | [], a, _ => rfl
  | x :: l, a, h => by
    simp only [risB, Bool.and_eq_true, decide_eq_true_eq] at h
    by_cases hx : k < x.s
    · rw [List.filter_cons, if_pos ((left_iff k x).2 hx), left_high id l x.s h.2 (by omega)]
      simp only [risB, Bool.and_eq_true, decide_eq_true_eq]
      exact ⟨⟨h.1.1, hx⟩, h.2⟩
    · rw [List.filter_cons, if_neg (fun q => hx ((left_iff k x).1 q))]
      exact left_ris id k l x.s h.2
theorem left_twice (k : Int) (l : List Inp) : (l.filter (leftB k)).filter (leftB k) = l.filter (leftB k) := by
  rw [List.filter_filter]
  congr 1
  funext x
  simp
/-- the sum of the first gaps -/
def seqOf (gs : List Int) : Nat → Int
  | 0 => 0
  | k + 1 => seqOf gs k + (1 + (gs.getD k 0) % 8)
def inpOf (gs : List Int) (k : Nat) : Inp := ⟨2, seqOf gs (k + 1), 0, k, 0, false, 0, 0, 0, 0⟩
/-- the first inputs -/
def insOf (gs : List Int) : Nat → List Inp
  | 0 => []
  | k + 1 => insOf gs k ++ [inpOf gs k]
theorem seq_step (gs : List Int) (k : Nat) : seqOf gs k + 1 ≤ seqOf gs (k + 1) ∧ seqOf gs (k + 1) ≤ seqOf gs k + 8 := by
  rw [seqOf]; omega
theorem seq_bd (gs : List Int) : ∀ k : Nat, (k : Int) ≤ seqOf gs k ∧ seqOf gs k ≤ 8 * k
  | 0 => by rw [seqOf]; omega
  | k + 1 => by
    have := seq_bd gs k
    have := seq_step gs k
    omega
theorem ins_len (gs : List Int) : ∀ k, (insOf gs k).length = k
  | 0 => rfl
  | k + 1 => by rw [insOf, List.length_append, ins_len gs k]; rfl
theorem ins_ris (gs : List Int) : ∀ k, risB 2 0 (insOf gs k) = true ∧ lastS 0 (insOf gs k) = seqOf gs k
  | 0 => ⟨rfl, rfl⟩
  | k + 1 => by
    obtain ⟨h1, h2⟩ := ins_ris gs k
    have := seq_step gs k
    rw [insOf]
    refine ⟨?_, lastS_snoc _ _ _⟩
    rw [risB_push, h1, h2]
    simp only [Bool.true_and, Bool.and_eq_true, decide_eq_true_eq]
    exact ⟨rfl, by show seqOf gs k < seqOf gs (k + 1); omega⟩
def cP (l : List Inp) : Cli := ⟨2, 0, 0, ⟨10, baseM 0 0⟩, 0, l⟩
def dP (a : Int) (l : List Inp) : Cli := ⟨2, 0, 0, ⟨10, baseM 1 1⟩, a, l⟩
theorem base_v1 : Valid ⟨10, baseM 0 0⟩ := of_decide_eq_true (by kernel_rfl)
theorem base_v2 : Valid ⟨10, baseM 1 1⟩ := of_decide_eq_true (by kernel_rfl)
theorem base_v3 : Valid ⟨9, baseM 1 1⟩ := of_decide_eq_true (by kernel_rfl)
theorem cP_valid (gs : List Int) {k : Nat} (hk : k ≤ 64) : validC (cP (insOf gs k)) = true := by
  unfold validC cP
  simp only [Bool.and_eq_true, decide_eq_true_eq]
  exact ⟨by decide, by decide, base_v1, by decide, by rw [ins_len]; exact hk, (ins_ris gs k).1⟩
theorem push_free (gs : List Int) {k : Nat} (hk : k < 64) : pushR (cP (insOf gs k)) (inpOf gs k) = (cP (insOf gs (k + 1)), 0) := by
  have h1 : pushB (cP (insOf gs k)) (inpOf gs k) = true := by
    unfold pushB
    rw [cP_valid gs (by omega)]
    simp only [Bool.true_and, Bool.and_eq_true, decide_eq_true_eq]
    refine ⟨rfl, ?_⟩
    show lastS 0 (insOf gs k) < seqOf gs (k + 1)
    rw [(ins_ris gs k).2]
    have := seq_step gs k
    omega
  unfold pushR
  rw [if_pos h1, if_pos (by show (insOf gs k).length < 64; rw [ins_len]; exact hk)]
  rfl
theorem push_twice (gs : List Int) {k : Nat} (hk : k < 64) : pushR (cP (insOf gs (k + 1))) (inpOf gs k) = (cli0, 2) := by
  have h1 : pushB (cP (insOf gs (k + 1))) (inpOf gs k) = false := by
    unfold pushB
    rw [cP_valid gs (by omega)]
    simp only [Bool.true_and, Bool.and_eq_false_iff, decide_eq_false_iff_not]
    right
    show ¬ lastS 0 (insOf gs (k + 1)) < seqOf gs (k + 1)
    rw [(ins_ris gs (k + 1)).2]
    omega
  unfold pushR
  rw [h1, if_neg (by decide)]
theorem push_over (gs : List Int) : pushR (cP (insOf gs 64)) (inpOf gs 64) = (cli0, 4) := by
  have h1 : pushB (cP (insOf gs 64)) (inpOf gs 64) = true := by
    unfold pushB
    rw [cP_valid gs (by omega)]
    simp only [Bool.true_and, Bool.and_eq_true, decide_eq_true_eq]
    refine ⟨rfl, ?_⟩
    show lastS 0 (insOf gs 64) < seqOf gs (64 + 1)
    rw [(ins_ris gs 64).2]
    have := seq_step gs 64
    omega
  unfold pushR
  rw [if_pos h1, if_neg (by show ¬ (insOf gs 64).length < 64; rw [ins_len]; omega)]
theorem recv_1 (gs : List Int) {k : Nat} (hk : k ≤ 64) {a : Int} (ha : 0 ≤ a) : recvR (cP (insOf gs k)) ⟨10, baseM 1 1⟩ a = (dP a ((insOf gs k).filter (leftB a)), 0) := by
  unfold recvR
  rw [if_pos ⟨cP_valid gs hk, base_v2⟩, if_neg (by show ¬ ((10 : Int) < 10 ∨ a < 0); omega)]
  rfl
theorem dP_valid (gs : List Int) {k : Nat} (hk : k ≤ 64) {a : Int} (ha : 0 ≤ a) : validC (dP a ((insOf gs k).filter (leftB a))) = true := by
  unfold validC dP
  simp only [Bool.and_eq_true, decide_eq_true_eq]
  refine ⟨by decide, by decide, base_v2, ha, ?_, left_ris 2 a _ 0 (ins_ris gs k).1⟩
  have := List.length_filter_le (leftB a) (insOf gs k)
  rw [ins_len] at this
  omega
theorem recv_2 (gs : List Int) {k : Nat} (hk : k ≤ 64) {a : Int} (ha : 0 ≤ a) : recvR (dP a ((insOf gs k).filter (leftB a))) ⟨10, baseM 1 1⟩ a = (dP a ((insOf gs k).filter (leftB a)), 0) := by
  unfold recvR
  rw [if_pos ⟨dP_valid gs hk ha, base_v2⟩, if_neg (by show ¬ ((10 : Int) < 10 ∨ a < a); omega)]
  show ((dP a (((insOf gs k).filter (leftB a)).filter (leftB a))), (0 : Int)) = _
  rw [left_twice]
theorem recv_3 (gs : List Int) {k : Nat} (hk : k ≤ 64) {a : Int} (ha : 0 ≤ a) : recvR (dP a ((insOf gs k).filter (leftB a))) ⟨9, baseM 1 1⟩ a = (cli0, 270) := by
  unfold recvR
  rw [if_pos ⟨dP_valid gs hk ha, base_v3⟩, if_pos (.inl (by show (9 : Int) < 10; omega))]
theorem recv_4 (gs : List Int) {k : Nat} (hk : k ≤ 64) {a : Int} (ha : 0 ≤ a) : recvR (dP a ((insOf gs k).filter (leftB a))) ⟨10, baseM 1 1⟩ (a - 1) = (cli0, 270) := by
  unfold recvR
  rw [if_pos ⟨dP_valid gs hk ha, base_v2⟩, if_pos (.inr (by show a - 1 < a; omega))]
/-- how many of the first are left -/
def cntL (a : Int) (l : List Inp) (i : Nat) : Nat := ((l.take i).filter (leftB a)).length
theorem cnt_zero (a : Int) (l : List Inp) : cntL a l 0 = 0 := by unfold cntL; simp
theorem cnt_all (a : Int) (l : List Inp) : cntL a l l.length = (l.filter (leftB a)).length := by unfold cntL; rw [List.take_length]
theorem cnt_skip {a : Int} {l : List Inp} {i : Nat} {x : Inp} (h : l[i]? = some x) (hx : x.s ≤ a) : cntL a l (i + 1) = cntL a l i := by
  unfold cntL
  rw [take_succ h, List.filter_append, List.filter_cons, if_neg (fun q => by have := (left_iff a x).1 q; omega)]
  simp
theorem cnt_step {a : Int} {l : List Inp} {i : Nat} {x : Inp} (h : l[i]? = some x) (hx : a < x.s) : cntL a l (i + 1) = cntL a l i + 1 ∧ (l.filter (leftB a))[cntL a l i]? = some x := by
  have h2 : l.filter (leftB a) = (l.take i).filter (leftB a) ++ ((l.drop i).filter (leftB a)) := by
    rw [← List.filter_append, List.take_append_drop]
  have h3 : l.drop i = x :: l.drop (i + 1) := drop_at h
  constructor
  · unfold cntL
    rw [take_succ h, List.filter_append, List.filter_cons, if_pos ((left_iff a x).2 hx)]
    simp
  · rw [h2]
    unfold cntL
    rw [List.getElem?_append_right (by omega), Nat.sub_self, h3, List.filter_cons, if_pos ((left_iff a x).2 hx)]
    rfl
theorem cnt_le (a : Int) (l : List Inp) (i : Nat) : cntL a l i ≤ l.length := by
  unfold cntL
  refine Nat.le_trans (List.length_filter_le _ _) ?_
  rw [List.length_take]; omega
end Go.Proofs.YtlcjkomfjgddeaaGreatDoor
