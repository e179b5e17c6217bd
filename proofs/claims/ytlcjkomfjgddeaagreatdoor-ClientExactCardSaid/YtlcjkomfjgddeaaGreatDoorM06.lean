/- The one walk of a region from a state in which some operations have come up already: the next ones in an order that is given (they read, compute, call), the last ones in one forced order (they write). Worlds as plain data, and what the layers store and interp make of them; plain. append on a slice of the call's own: where the result lies is known: in the same array, or in a new one. How worlds lie in memory; store.Fits. -/
import Derived.Test.YtlcjkomfjgddeaaGreatDoorM04
import Derived.Test.YtlcjkomfjgddeaaGreatDoorM01
import Derived.Test.YtlcjkomfjgddeaaGreatDoorM05
import Derived.ArgAppend
import Derived.OwnWalk
import Derived.Deep.Onto
import Derived.Deep.AppendLies
import Derived.BigRegion
import Derived.WalkLawsBesides
import Derived.Deep.QuietTactic
import Derived.BigQuiet
set_option linter.unusedVariables false
set_option linter.unusedSimpArgs false
namespace Go.Proofs.YtlcjkomfjgddeaaGreatDoor
open Go Go.RowKit Go.Sort

section
variable {P : Program} {ops : Array Oper} {md : Region.Mode} {w0 : World} {T : Posts}

structure InvH (md : Region.Mode) (ops : Array Oper) (l0 : Array Bool) (H : List Nat) (listed : Array Bool) : Prop where
  size : listed.size = ops.size
  closed : ∀ j oj, ops[j]? = some oj → listed.getD j false = true → ∀ e ∈ oj.after, Region.binds md e = true → listed.getD e.on false = true
  tail : ∀ t, t ∉ H → listed.getD t true = l0.getD t true
theorem InvH.set {l0 listed : Array Bool} {H : List Nat} {i : Nat} (h : InvH md ops l0 H listed) (hr : i ∈ Region.ready md ops listed) (hi : i ∈ H) : InvH md ops l0 H (listed.setIfInBounds i true) := by
  obtain ⟨hun, oi, hoi, hall⟩ := mem_ready.1 hr
  have his : i < listed.size := by rw [h.size]; exact (Array.getElem?_eq_some_iff.1 hoi).1
  refine ⟨by simp [h.size], fun j oj hj hl e he hb => ?_, fun t ht => ?_⟩
  · have up : ∀ k, listed.getD k false = true → (listed.setIfInBounds i true).getD k false = true := fun k hk => by
      by_cases hik : i = k
      · subst hik; simp [his]
      · rw [getD_set_ne false hik]; exact hk
    by_cases hij : i = j
    · subst hij
      have : oj = oi := Option.some.inj (hj.symm.trans hoi)
      subst this
      exact up _ (hall e he hb)
    · rw [getD_set_ne false hij] at hl
      exact up _ (h.closed j oj hj hl e he hb)
  · have hit : i ≠ t := fun e => ht (e ▸ hi)
    rw [getD_set_ne true hit]; exact h.tail t ht

def wpAnyH (P : Program) (T : Posts) (md : Region.Mode) (ops : Array Oper) (w0 : World) (H : List Nat) (L : Array Bool → Mem → Act → Prop) : Nat → Array Bool → Mem → Act → Prop
  | 0, listed, Γ, a => NE2 w0 Γ → L listed Γ a
  | f + 1, listed, Γ, a => NE2 w0 Γ →
    Region.ready md ops listed ≠ [] ∧ ∀ i ∈ Region.ready md ops listed, i ∈ H ∧ sOp2 P T ops w0 md i (wpAnyH P T md ops w0 H L f (listed.setIfInBounds i true)) Γ a
theorem wpAny_of_headH {g : Nat} {H : List Nat} {L : Array Bool → Mem → Act → Prop} {Q' : Exit → Act → World → Prop} (hL : ∀ listed Γ a w, Cls2 w0 Γ w → L listed Γ a → wpAny P md ops Q' g listed a w) :
    ∀ (f : Nat) (listed : Array Bool) (Γ : Mem) (a : Act) (w : World), Cls2 w0 Γ w → wpAnyH P T md ops w0 H L f listed Γ a → wpAny P md ops Q' (f + g) listed a w
  | 0, listed, Γ, a, w, hC, h => by rw [Nat.zero_add]; exact hL _ _ _ _ hC (h ⟨w, hC⟩)
  | f + 1, listed, Γ, a, w, hC, h => by
    rw [show f + 1 + g = (f + g) + 1 by omega]
    have h := h ⟨w, hC⟩
    refine ⟨fun h0 => absurd h0 h.1, fun i hi => ?_⟩
    obtain ⟨o, ho⟩ := ops_ready hi
    obtain ⟨s, hs, ha⟩ := (h.2 i hi).2 o ho
    exact wp_of_holds2 hC ho (fun Γ' a' w' hC' h' => wpAny_of_headH hL f _ Γ' a' w' hC' h') hs ha
theorem wpAnyH_first {H : List Nat} {l0 : Array Bool} {i : Nat} {oi : Oper} {s : Spec2} {L : Array Bool → Mem → Act → Prop} (hi : ops[i]? = some oi) (hsel : ∀ (j : Nat) (o : Oper) cs b, ops[j]? = some o → o.op ≠ .select cs b)
    (hlt : ∀ (listed : Array Bool) (i j : Nat), InvH md ops l0 H listed → i ∈ H → listed.getD i true = false → j ∈ Region.ready md ops listed → j ∈ H) (hin : i ∈ H)
    (hdone : ∀ listed Γ a, L listed Γ a → ∀ j ∈ Region.ready md ops listed, j ∉ H) :
    ∀ (f : Nat) (listed : Array Bool) (Γ : Mem) (a : Act), InvH md ops l0 H listed → (∀ k, listed.getD k true = false → Γ k = none) →
      (∀ j oj, ops[j]? = some oj → j ≠ i → listed.getD j true = false → (∀ e ∈ oj.after, Region.binds md e = true → e.on ≠ i) → oi.apart ops oj = true) →
      i ∈ Region.ready md ops listed → Holds2 P T ops w0 md oi a Γ s →
      After2 T w0 i oi (wpAnyH P T md ops w0 H L f (listed.setIfInBounds i true)) Γ a s → wpAnyH P T md ops w0 H L (f + 1) listed Γ a := by
  intro f
  induction f with
  | zero =>
    intro listed Γ a inv hΓ _ hr hy Hk ne
    have hun := (mem_ready.1 hr).1
    refine ⟨fun h => (by rw [h] at hr; cases hr), fun j hj => ?_⟩
    have hjn : j ∈ H := hlt listed i j inv hin hun hj
    refine ⟨hjn, ?_⟩
    by_cases hji : j = i
    · subst hji; exact fun o ho => by
        have : o = oi := Option.some.inj (ho.symm.trans hi)
        subst this
        exact ⟨s, hy, Hk⟩
    · obtain ⟨v, it, ho, hg⟩ := NE2_sM (i := i) hy ne
      exact absurd hjn (hdone _ _ _ ((Hk v it ho) hg) j (ready_mono hj hji))
  | succ f ih =>
    intro listed Γ a inv hΓ hfree hr hy Hk ne
    have hun := (mem_ready.1 hr).1
    refine ⟨fun h => (by rw [h] at hr; cases hr), fun j hj => ?_⟩
    have hjn : j ∈ H := hlt listed i j inv hin hun hj
    refine ⟨hjn, ?_⟩
    by_cases hji : j = i
    · subst hji; exact fun o ho => by
        have : o = oi := Option.some.inj (ho.symm.trans hi)
        subst this
        exact ⟨s, hy, Hk⟩
    · intro oj hoj
      obtain ⟨hjun, oj', hoj', hall⟩ := mem_ready.1 hj
      have e1 : oj' = oj := Option.some.inj (hoj'.symm.trans hoj)
      subst e1
      have hjw : ¬ waits md oj' i := waits_unready hj hoj hun
      have hiw : ¬ waits md oi j := waits_unready hr hi hjun
      have hap := hfree j oj' hoj hji hjun (fun e he hb heq => hjw ⟨e, he, hb, heq⟩)
      obtain ⟨p1, p2, p3⟩ := Oper.apart_spec hap
      have hsj := fun cs b => hsel j oj' cs b hoj
      have hsi := fun cs b => hsel i oi cs b hi
      have each : ∀ v it, Out T w0 s v it → NE2 w0 (sM i it Γ) → ∃ t, Holds2 P T ops w0 md oj' a Γ t ∧ ∀ u jt, Out T w0 t u jt → wpAnyH P T md ops w0 H L f ((listed.setIfInBounds i true).setIfInBounds j true) (sM j jt (sM i it Γ)) ((a.put oi.dst v).put oj'.dst u) := by
        intro v it ho hg
        obtain ⟨t, h1, h2⟩ := ((Hk v it ho) hg).2 j (ready_mono hj hji) |>.2 oj' hoj
        exact ⟨t, h1.same (execOp_put oj' hsj a oi.dst _ p1).symm (wanted_put oj' a oi.dst _ p1).symm (fun w hw => (clsFor_sM hjw w).2 hw), h2⟩
      obtain ⟨v0, it0, ho0, hg0⟩ := NE2_sM (i := i) hy ne
      obtain ⟨t, ht, ht2⟩ := each v0 it0 ho0 hg0
      refine ⟨t, ht, fun u jt hu => ?_⟩
      have hfree' : ∀ k ok, ops[k]? = some ok → k ≠ i → (listed.setIfInBounds j true).getD k true = false →
          (∀ e ∈ ok.after, Region.binds md e = true → e.on ≠ i) → oi.apart ops ok = true := fun k ok hk hki hun hno => by
        refine hfree k ok hk hki ?_ hno
        by_cases hjk : j = k
        · subst hjk; exact hjun
        · rw [getD_set_ne true hjk] at hun; exact hun
      have hjs : j < listed.size := by
        rcases Nat.lt_or_ge j listed.size with h | h
        · exact h
        · rw [inv.size] at h; have := (Array.getElem?_eq_some_iff.1 hoj).1; omega
      have hΓ' : ∀ k, (listed.setIfInBounds j true).getD k true = false → sM j jt Γ k = none := fun k hk => by
        by_cases hjk : j = k
        · subst hjk; simp [hjs] at hk
        · rw [getD_set_ne true hjk] at hk
          rw [sM_other (Ne.symm hjk)]; exact hΓ k hk
      refine ih (listed.setIfInBounds j true) (sM j jt Γ) (a.put oj'.dst u) (inv.set hj hjn) hΓ' hfree' (ready_mono hr (Ne.symm hji))
        (hy.same (execOp_put oi hsi a oj'.dst _ p3) (wanted_put oi a oj'.dst _ p3) (fun w hw => (clsFor_sM hiw w).1 hw)) (fun v it ho => ?_)
      have hgo : NE2 w0 (sM i it (sM j jt Γ)) → wpAnyH P T md ops w0 H L f ((listed.setIfInBounds j true).setIfInBounds i true) (sM i it (sM j jt Γ)) ((a.put oj'.dst u).put oi.dst v) := by
        intro hne
        rw [← sM_comm (Ne.symm hji)] at hne ⊢
        have hne' : NE2 w0 (sM i it Γ) := NE2_of_sM (by rw [sM_other hji]; exact hΓ j hjun) hne
        obtain ⟨t', ht', ht2'⟩ := each v it ho hne'
        obtain ⟨w, hw⟩ := ne
        have := Holds2.unique hw.for ht' ht
        subst this
        have h3 := ht2' u jt hu
        rw [Array.setIfInBounds_comm _ _ hji, ← Act.put_comm a v u p2]
        exact h3
      cases f with
      | zero => exact fun hne => hgo hne hne
      | succ f => exact fun hne => hgo hne hne

def wpLowH (P : Program) (T : Posts) (ops : Array Oper) (w0 : World) (Lq : Mem → Act → Prop) : List Nat → Mem → Act → Prop
  | [], Γ, a => Lq Γ a
  | k :: rest, Γ, a => ∀ o, ops[k]? = some o → ∃ s, Holds2 P T ops w0 .any o a Γ s ∧ After2 T w0 k o (wpLowH P T ops w0 Lq rest) Γ a s
def seqL (md : Region.Mode) (ops : Array Oper) : List Nat → Array Bool → Bool
  | [], listed => (Region.ready md ops listed).isEmpty
  | t :: ts, listed => decide (Region.ready md ops listed = [t]) && seqL md ops ts (listed.setIfInBounds t true)
def lexL (md : Region.Mode) (ops : Array Oper) (ts : List Nat) : List Nat → Array Bool → Bool
  | [], listed => seqL md ops ts listed
  | k :: l, listed => (Region.ready md ops listed).contains k && Region.free md ops listed k && lexL md ops ts l (listed.setIfInBounds k true)
/-- the operations of the tail, one behind the other -/
def wpSeq (P : Program) (ops : Array Oper) (Q : Exit → Act → World → Prop) : List Nat → Act → World → Prop
  | [], a, w => Q .normal a w
  | t :: ts, a, w => wpOp P ops Q t (wpSeq P ops Q ts) a w
theorem wpAny_of_seqL {Q' : Exit → Act → World → Prop} : ∀ (ts : List Nat) (listed : Array Bool) (a : Act) (w : World), seqL md ops ts listed = true → wpSeq P ops Q' ts a w → wpAny P md ops Q' ts.length listed a w
  | [], _, _, _, hB, h => ⟨by simpa [seqL] using hB, h⟩
  | t :: ts, listed, a, w, hB, h => by
    simp only [seqL, Bool.and_eq_true, decide_eq_true_eq] at hB
    refine ⟨fun h1 => (by rw [hB.1] at h1; cases h1), fun i hi => ?_⟩
    rw [hB.1] at hi
    have hik : i = t := by simpa using hi
    subst hik
    exact wpOp_mono (fun a' w' h' => wpAny_of_seqL ts _ a' w' hB.2 h') h
theorem wpAnyH_lex {H ts : List Nat} {l0 : Array Bool} {Lq : Mem → Act → Prop} (hsel : Region.noSelect ops = true) (hts : ∀ t ∈ ts, t ∉ H)
    (hlt : ∀ (listed : Array Bool) (i j : Nat), InvH .any ops l0 H listed → i ∈ H → listed.getD i true = false → j ∈ Region.ready .any ops listed → j ∈ H) :
    ∀ (l : List Nat) (listed : Array Bool) (Γ : Mem) (a : Act), (∀ k ∈ l, k ∈ H) → InvH .any ops l0 H listed → (∀ k, listed.getD k true = false → Γ k = none) →
    lexL .any ops ts l listed = true → wpLowH P T ops w0 Lq l Γ a →
    wpAnyH P T .any ops w0 H (fun listed' Γ' a' => seqL .any ops ts listed' = true ∧ Lq Γ' a') l.length listed Γ a
  | [], listed, Γ, a, _, _, _, hB, h => fun _ => ⟨hB, h⟩
  | k :: l, listed, Γ, a, hl, inv, hΓ, hB, h => by
    simp only [lexL, Bool.and_eq_true] at hB
    obtain ⟨⟨hr, hf⟩, hB'⟩ := hB
    have hr' : k ∈ Region.ready .any ops listed := by simpa using hr
    have hkH : k ∈ H := hl k (List.mem_cons_self ..)
    obtain ⟨o, h0⟩ := ops_ready hr'
    obtain ⟨s, hy, hK⟩ := h o h0
    have hdone : ∀ (listed' : Array Bool) (Γ' : Mem) (a' : Act), (seqL .any ops ts listed' = true ∧ Lq Γ' a') → ∀ j ∈ Region.ready .any ops listed', j ∉ H := fun listed' Γ' a' hL j hj => by
      cases ts with
      | nil =>
        have h1 := hL.1
        simp only [seqL, List.isEmpty_iff] at h1
        rw [h1] at hj; cases hj
      | cons t ts =>
        have h1 := hL.1
        simp only [seqL, Bool.and_eq_true, decide_eq_true_eq] at h1
        rw [h1.1] at hj
        have : j = t := by simpa using hj
        subst this
        exact hts _ (List.mem_cons_self ..)
    refine wpAnyH_first h0 (Region.noSelect_spec hsel) hlt hkH hdone l.length listed Γ a inv hΓ (Region.free_spec h0 hf) hr' hy (fun v it ho => ?_)
    have hks : k < listed.size := by
      rcases Nat.lt_or_ge k listed.size with h | h
      · exact h
      · rw [inv.size] at h; have := (Array.getElem?_eq_some_iff.1 h0).1; omega
    refine wpAnyH_lex hsel hts hlt l _ _ _ (fun m hm => hl m (List.mem_cons_of_mem _ hm)) (inv.set hr' hkH) (fun m hm => ?_) hB' (hK v it ho)
    by_cases hkm : k = m
    · subst hkm; simp [hks] at hm
    · rw [getD_set_ne true hkm] at hm
      rw [sM_other (Ne.symm hkm)]; exact hΓ m hm

/-- does operation j wait for i -/
def edgeB (ops : Array Oper) (j i : Nat) : Bool := match ops[j]? with | some o => o.after.any (fun e => Region.binds .any e && e.on == i) | none => false
theorem edgeB_spec {j i : Nat} (h : edgeB ops j i = true) : ∃ o, ops[j]? = some o ∧ ∃ e ∈ o.after, Region.binds .any e = true ∧ e.on = i := by
  unfold edgeB at h
  cases hoj : ops[j]? with
  | none => rw [hoj] at h; cases h
  | some o =>
    rw [hoj] at h
    simp only [Array.any_eq_true'] at h
    obtain ⟨e, he, hb⟩ := h
    simp only [Bool.and_eq_true, beq_iff_eq] at hb
    exact ⟨o, rfl, e, he, hb⟩
/-- each of the list is waited for by one ahead of it, or by the operation t -/
def justB (ops : Array Oper) (t : Nat) : List Nat → List Nat → Bool
  | _, [] => true
  | seen, i :: rest => (edgeB ops t i || seen.any fun s => edgeB ops s i) && justB ops t (i :: seen) rest
theorem justB_spec {t : Nat} {l0 listed : Array Bool} {H : List Nat} (inv : InvH .any ops l0 H listed) (hr : t ∈ Region.ready .any ops listed) :
    ∀ (l seen : List Nat), (∀ s ∈ seen, listed.getD s false = true) → justB ops t seen l = true → ∀ i ∈ l, listed.getD i false = true
  | [], _, _, _, i, hi => by cases hi
  | k :: l, seen, hs, h, i, hi => by
    simp only [justB, Bool.and_eq_true, Bool.or_eq_true] at h
    have hk : listed.getD k false = true := by
      rcases h.1 with h1 | h1
      · obtain ⟨o, ho, e, he, hb, hon⟩ := edgeB_spec h1
        obtain ⟨_, o', ho', hall⟩ := mem_ready.1 hr
        have : o' = o := Option.some.inj (ho'.symm.trans ho)
        subst this
        rw [← hon]; exact hall e he hb
      · obtain ⟨s, hs1, hs2⟩ := List.any_eq_true.1 h1
        obtain ⟨o, ho, e, he, hb, hon⟩ := edgeB_spec hs2
        rw [← hon]; exact inv.closed s o ho (hs s hs1) e he hb
    rcases List.mem_cons.1 hi with rfl | hi
    · exact hk
    · exact justB_spec inv hr l (k :: seen) (fun s hs' => by rcases List.mem_cons.1 hs' with rfl | h'; exact hk; exact hs s h') h.2 i hi
/-- the tail's operations each wait for the one ahead -/
def tailB (ops : Array Oper) : List Nat → Bool
  | a :: b :: l => edgeB ops b a && tailB ops (b :: l)
  | _ => true
def closedB (ops : Array Oper) (l0 : Array Bool) : Bool := (List.range ops.size).all fun j => !l0.getD j false || (match ops[j]? with | some o => o.after.all (fun e => !Region.binds .any e || l0.getD e.on false) | none => true)
/-- all that is asked of the lists -/
def lowHB (ops : Array Oper) (l0 : Array Bool) (H just ts : List Nat) : Bool :=
  Region.noSelect ops && decide (l0.size = ops.size) && closedB ops l0 && ((List.range ops.size).all fun j => l0.getD j false || H.contains j || ts.contains j) &&
    (H.all fun j => just.contains j && !ts.contains j && !l0.getD j true) && (ts.all fun j => !l0.getD j true) && (match ts with | t :: _ => justB ops t [] just | [] => false) && tailB ops ts && lexL .any ops ts H l0
theorem tailB_spec : ∀ (ts : List Nat), tailB ops ts = true → ∀ j ∈ ts, (ts.head? = some j ∨ ∃ k ∈ ts, edgeB ops j k = true)
  | [], _, j, hj => by cases hj
  | [a], _, j, hj => by
    have : j = a := by simpa using hj
    subst this; exact .inl rfl
  | a :: b :: l, h, j, hj => by
    simp only [tailB, Bool.and_eq_true] at h
    rcases List.mem_cons.1 hj with rfl | hj
    · exact .inl rfl
    · rcases tailB_spec (b :: l) h.2 j hj with h1 | ⟨k, hk, he⟩
      · have : b = j := by simpa using h1
        subst this
        exact .inr ⟨a, List.mem_cons_self .., h.1⟩
      · exact .inr ⟨k, List.mem_cons_of_mem _ hk, he⟩
theorem any_lowH {Q : Exit → Act → World → Prop} {a : Act} {w : World} (T : Posts) (l0 : Array Bool) (H just ts : List Nat) (hB : lowHB ops l0 H just ts = true)
    (h : wpLowH P T ops w (fun Γ a' => ∀ w', Cls2 w Γ w' → wpSeq P ops Q ts a' w') H (fun _ => none) a) : wpAny P .any ops Q (H.length + ts.length) l0 a w := by
  simp only [lowHB, Bool.and_eq_true, decide_eq_true_eq, List.all_eq_true, List.mem_range, Bool.or_eq_true, Bool.not_eq_true', List.contains_iff_mem] at hB
  obtain ⟨⟨⟨⟨⟨⟨⟨⟨hsel, hsz⟩, hcl⟩, hall⟩, hH⟩, htu⟩, hjust⟩, htail⟩, hlex⟩ := hB
  have hHts : ∀ t ∈ ts, t ∉ H := fun t ht hh => by
    have := (hH t hh).1.2
    rw [← Bool.not_eq_true, List.contains_iff_mem] at this
    exact this ht
  have inv0 : InvH .any ops l0 H l0 := ⟨hsz, fun j oj hj hl e he hb => by
    have hjs := (Array.getElem?_eq_some_iff.1 hj).1
    unfold closedB at hcl
    have h1 := List.all_eq_true.1 hcl j (List.mem_range.2 hjs)
    rw [hl, hj] at h1
    simp only [Bool.not_true, Bool.false_or, Array.all_eq_true'] at h1
    have h2 := h1 e he
    rw [hb] at h2
    simpa using h2, fun t _ => rfl⟩
  have hlt : ∀ (listed : Array Bool) (i j : Nat), InvH .any ops l0 H listed → i ∈ H → listed.getD i true = false → j ∈ Region.ready .any ops listed → j ∈ H := fun listed i j inv hi hun hj => by
    refine Classical.byContradiction fun hjH => ?_
    obtain ⟨hjun, oj, hoj, hready⟩ := mem_ready.1 hj
    have hjs := (Array.getElem?_eq_some_iff.1 hoj).1
    have hj0 : l0.getD j true = false := by rw [← inv.tail j hjH]; exact hjun
    have hjt : j ∈ ts := by
      rcases hall j hjs with (h1 | h1) | h1
      · rw [getD_both hj0] at h1; cases h1
      · exact absurd h1 hjH
      · exact h1
    rcases tailB_spec ts htail j hjt with h1 | ⟨k, hk, he⟩
    · cases ts with
      | nil => cases hjt
      | cons t ts =>
        have : t = j := by simpa using h1
        subst this
        have h2 := justB_spec inv hj just [] (fun s hs => by cases hs) hjust i (hH i hi).1.1
        rw [getD_both hun] at h2; cases h2
    · obtain ⟨o, ho, e, he', hb, hon⟩ := edgeB_spec he
      have : o = oj := Option.some.inj (ho.symm.trans hoj)
      subst this
      have h2 := hready e he' hb
      rw [hon] at h2
      have h3 : listed.getD k true = false := by rw [inv.tail k (hHts k hk)]; exact htu k hk
      rw [getD_both h3] at h2; cases h2
  have Hx := wpAnyH_lex (w0 := w) (T := T) (P := P) hsel hHts hlt H l0 (fun _ => none) a (fun k hk => hk) inv0 (fun _ _ => rfl) hlex h
  exact wpAny_of_headH (T := T) (g := ts.length) (w0 := w) (fun listed Γ a' w' hC hL => wpAny_of_seqL ts listed a' w' hL.1 (hL.2 w' hC)) _ _ (fun _ => none) _ w
    ⟨Below.refl _ _, fun i x hi => (by cases hi), fun i x hi => (by cases hi), fun i x g hi => (by cases hi), fun i j x y g hi => (by cases hi)⟩ Hx
theorem lowH_nil {Lq : Mem → Act → Prop} {Γ : Mem} {a : Act} (h : Lq Γ a) : wpLowH P T ops w0 Lq [] Γ a := h
theorem lowH_step {Lq : Mem → Act → Prop} {k : Nat} {rest : List Nat} {Γ : Mem} {a : Act} (o : Oper) (ho : ops[k]? = some o)
    (h : ∀ K : Act → Prop, (∀ a, wpLowH P T ops w0 Lq rest Γ a → K a) → if Region.wanted o (yielded ops a.tmps) then opLow2 P T o a w0 K else K (a.put o.dst undef)) : wpLowH P T ops w0 Lq (k :: rest) Γ a := by
  intro o' ho'
  obtain rfl : o = o' := Option.some.inj (ho.symm.trans ho')
  have h := h (wpLowH P T ops w0 Lq rest Γ) (fun _ h => h)
  by_cases hw : Region.wanted o (yielded ops a.tmps) = true
  · rw [if_pos hw] at h
    obtain ⟨v, h1, h2⟩ := h
    refine ⟨.quiet v, .inl ⟨hw, fun w hC => ?_⟩, fun u it ho => by obtain ⟨rfl, rfl⟩ := ho; exact h2⟩
    obtain ⟨p, rfl⟩ := regrown_of_below hC.1
    have := h1 p
    generalize (execOp a.eval o).run P (grow (redrawn w0 p.d) p.os) = r at *
    cases r with
    | ok n w' => cases n <;> exact this
    | halt x w' => exact this
  · rw [if_neg hw] at h
    exact ⟨.quiet undef, .inr ⟨by simpa using hw, rfl⟩, fun u it ho => by obtain ⟨rfl, rfl⟩ := ho; exact h⟩
end
end Go.Proofs.YtlcjkomfjgddeaaGreatDoor
namespace Go.Proofs.YtlcjkomfjgddeaaGreatDoor
open Go

structure Cmp where
  k : Int
  a : Int
  b : Int
  c : Int
  d : Int
structure Ent where
  id : Int
  cs : List Cmp
structure Wld where
  t : Int
  es : List Ent

/-- the ranges of the four numbers of a component of each kind, as the program's table has them -/
def tab : List Int :=
  [0, 0, 0, 0, 0, 0, 0, 0,
   -1048576, 1048576, -1048576, 1048576, 0, 0, 0, 0,
   -4096, 4096, -4096, 4096, 0, 0, 0, 0,
   1, 16384, 1, 16384, 0, 1, 0, 1,
   1, 8, 0, 0, 0, 0, 0, 0,
   0, 510, 0, 0, 0, 0, 0, 0,
   0, 15, 0, 0, 0, 0, 0, 0,
   -2147483648, 2147483647, -2147483648, 2147483647, -2147483648, 2147483647, -2147483648, 2147483647,
   0, 1048576, 0, 1048576, 0, 0, 0, 0,
   0, 2147483647, 0, 2147483647, 0, 2147483647, 0, 2147483647,
   -2147483648, 2147483647, -2147483648, 2147483647, -2147483648, 2147483647, -2147483648, 2147483647]
def lim (k : Int) (i : Nat) : Int × Int := (tab.getD (k.toNat * 8 + 2 * i) 0, tab.getD (k.toNat * 8 + 2 * i + 1) 0)
def Cmp.v (x : Cmp) : Nat → Int
  | 0 => x.a
  | 1 => x.b
  | 2 => x.c
  | _ => x.d
def inLim (x : Cmp) (i : Nat) : Bool := decide ((lim x.k i).1 ≤ x.v i) && decide (x.v i ≤ (lim x.k i).2)
/-- store.Fits -/
def extra (x : Cmp) : Bool := if x.k = 3 then decide (x.c = 0) || decide (x.a = x.b) else if x.k = 5 then decide (x.a % 2 = 0) else true
def fits (x : Cmp) : Bool := decide (1 ≤ x.k) && decide (x.k ≤ 10) && (inLim x 0 && inLim x 1 && inLim x 2 && inLim x 3) && extra x
/-- the keys of a list rise -/
def Rises (l : List Int) : Prop := ∀ i, i < l.length - 1 → l.getD i 0 < l.getD (i + 1) 0
instance decRises (l : List Int) : Decidable (Rises l) := by unfold Rises; infer_instance
/-- store.Right, store.Valid -/
def Right (e : Ent) : Prop := (1 ≤ e.id ∧ e.id ≤ 65536) ∧ Rises (e.cs.map Cmp.k) ∧ ∀ x ∈ e.cs, fits x = true
instance decRight (e : Ent) : Decidable (Right e) := by unfold Right; infer_instance
def Valid (w : Wld) : Prop := (0 ≤ w.t ∧ w.t ≤ 1073741824) ∧ w.es.length ≤ 64 ∧ Rises (w.es.map Ent.id) ∧ ∀ e ∈ w.es, Right e
instance decValid (w : Wld) : Decidable (Valid w) := by unfold Valid; infer_instance
def ValidH (h : List Wld) : Prop := ((∀ w ∈ h, Valid w) ∧ Rises (h.map Wld.t)) ∧ h.length ≤ 40
instance decValidH (h : List Wld) : Decidable (ValidH h) := by unfold ValidH; infer_instance
theorem map_at {α : Type} {l : List α} {i : Nat} {x : α} (f : α → Int) (h : l[i]? = some x) : (l.map f).getD i 0 = f x := by simp [List.getD, h]
end Go.Proofs.YtlcjkomfjgddeaaGreatDoor
namespace Go.Proofs.YtlcjkomfjgddeaaGreatDoor
open Go Go.RowKit Go.Sort

theorem grown_any {w w' : World} (h : w.grownBy w' none) (r : Option Nat) : w.grownBy w' r := ⟨h.os, h.tape, h.output, h.size, fun k hk _ => h.block k hk (by simp)⟩
theorem wpList_append_mine {P : Program} (w : World) {ops : Array Oper} {rest : List Oper} {o : Oper} {a : Act} {Q : Exit → Act → World → Prop}
    (hg : o.guard = none) (s x : Operand) (t : TypeId) (hop : o.op = Op.call { callee := Callee.builtin Builtin.append, args := #[s, x], argTypes := #[t, t] })
    (base : Nat) (e : TypeId) (i : TypeInfo) (z : Value) (size bytes : Nat) (h1 : P.underlying t = some (.slice e)) (h2 : P.info? e = some i) (h3 : i.zero = some z) (h4 : i.size = size) (h5 : i.bytes = bytes) (h6 : z.cells.size = size) (h7 : 0 < size)
    (v : Value) (n : Nat) (xs : List Value) (hs : a.eval s = v) (hown : w.ownsRow base e size v n xs)
    (ad : Addr) (m c : Nat) (news : List Value) (hx : a.eval x = .slice (some ad) m c) (hn : news.length = m * size) (hc : ∀ j u, news[j]? = some u → w.cell? (ad.add j) = some u) (h1c : ∀ u ∈ news, u.oneCell' = true)
    (hm : 0 < m) (b1 : n + m ≤ maxLen) (b2 : (n + m) * bytes ≤ 140737488355328) (hbase : base ≤ w.heap.size)
    (hK : ∀ g cap w', w'.ownsRow base e size (.slice (some ⟨g, 0, none⟩) (n + m) cap) (n + m) (xs ++ news) → w.grownBy w' v.ownBlock → (v.ownBlock = some g ∨ w.heap.size ≤ g) → wpList P ops Q rest (a.put o.dst (.slice (some ⟨g, 0, none⟩) (n + m) cap)) w') :
    wpList P ops Q (o :: rest) a w := by
  have new : ∀ v' w', w'.ownsRow w.heap.size e size v' (n + m) (xs ++ news) → w.grownBy w' none → wpList P ops Q rest (a.put o.dst v') w' := fun v' w' r1 r2 => by
    obtain ⟨g, cap, rfl, hg1, _⟩ := r1.form (by omega)
    exact hK g cap w' (r1.mono hbase) (grown_any r2 _) (.inr hg1)
  have hlo := hown.1
  rcases hown.2 with ⟨rfl, rfl⟩ | ⟨g, cap, cur, rfl, hbg, hgb, hnc, hcm, hcs, htake⟩
  · exact wpList_append_grows w hg s x t hop e i z size bytes h1 h2 h3 h4 h5 h6 h7 none 0 0 xs hs (fun _ => ⟨rfl, rfl⟩) hlo (fun b hb => by cases hb) ad m c news hx hn hc h1c (by omega) b1 b2 new
  · by_cases hr : n + m ≤ cap
    · exact wpList_append_fits w hg s x t hop base e i size h1 h2 h4 g n cap xs hs hown ad m c news hx hn hc h1c hr (fun w' r1 r2 => hK g cap w' r1 r2 (.inl rfl))
    · exact wpList_append_grows w hg s x t hop e i z size bytes h1 h2 h3 h4 h5 h6 h7 (some ⟨g, 0, none⟩) n cap xs hs (fun h => by cases h) hlo (fun b hb j u hj => by cases hb; exact hown.cells (g := g) rfl j u hj) ad m c news hx hn hc h1c (by omega) b1 b2 new
/-- a block of another type is no row of this type -/
theorem bk_ne_row {w : World} {g : Nat} {cs : Array Value} {t e : TypeId} {base size n : Nat} {v : Value} {xs : List Value} (h : Bk w g cs t) (hte : t ≠ e) (hr : w.ownsRow base e size v n xs) : some g ≠ v.ownBlock := fun he => by
  rcases hr.2 with ⟨hv, _⟩ | ⟨b, cap, cur, hv, _, hb, _⟩
  · rw [hv] at he; cases he
  · rw [hv] at he
    obtain rfl : g = b := Option.some.inj he
    unfold Bk at h
    rw [h] at hb
    injection hb with hb
    injection hb with _ h2 _
    exact hte h2
theorem Mut.grown {U : Nat → Prop} {w v v' : World} {r : Option Nat} (h : Mut U w v) (hg : v.grownBy v' r) (hr : ∀ b, r = some b → U b ∨ w.heap.size ≤ b) : Mut U w v' :=
  ⟨hg.os.trans h.os, hg.tape.trans h.tape, hg.output.trans h.output, Nat.le_trans h.size hg.size, fun b hb hU => (hg.block b (Nat.lt_of_lt_of_le hb h.size) (fun e => by
    rcases hr b e.symm with h1 | h1
    · exact hU h1
    · omega)).trans (h.block b hb hU)⟩
theorem Mut.alloc {U : Nat → Prop} {w v : World} (h : Mut U w v) (o : Obj) : Mut U w (v.alloc o) :=
  ⟨h.os, h.tape, h.output, by have := h.size; simp; omega, fun b hb hU => (Below.heap_alloc v o b (Nat.lt_of_lt_of_le hb h.size)).trans (h.block b hb hU)⟩
theorem Mut.setCell {U : Nat → Prop} {w v : World} (h : Mut U w v) {p : Addr} (hp : U p.block ∨ w.heap.size ≤ p.block) (u : Value) : Mut U w (v.setCell p u) :=
  ⟨h.os, h.tape, h.output, by have := h.size; simp [World.setCell]; omega, fun b hb hU => (Below.heap_setCell v p u b (fun e => by
    subst e
    rcases hp with h1 | h1
    · exact hU h1
    · omega)).trans (h.block b hb hU)⟩
theorem Mut.drew {U : Nat → Prop} {w v : World} (h : Mut U w v) : Mut U w v.drew := ⟨h.os, h.tape, h.output, h.size, h.block⟩
theorem at_name {R : Act → World → Prop} {a : Act} {w : World} (S : World → Prop) (h0 : S w) (h : ∀ W, S W → R a W) : R a w := h w h0
end Go.Proofs.YtlcjkomfjgddeaaGreatDoor
namespace Go.Proofs.YtlcjkomfjgddeaaGreatDoor
open Go Go.RowKit Go.Sort
set_option maxRecDepth 100000

/-- the table of ranges lies where the program's initialiser laid it -/
def RG (w : World) : Prop := ∀ j, j < 88 → w.cell? ⟨0, j, none⟩ = some (.int .i64 (tab.getD j 0))
theorem RG.below {w w' : World} (h : RG w) (hb : Below w.heap.size w w') : RG w' := fun j hj => cell_later hb (h j hj)
/-- a component as a value -/
abbrev C (x : Cmp) : Value := .agg #[.int .u8 x.k, .int .i64 x.a, .int .i64 x.b, .int .i64 x.c, .int .i64 x.d]
set_option maxHeartbeats 4000000 in
theorem fits_any (x : Cmp) (w : World) (hR : RG w) (k0 : 0 ≤ x.k) (k1 : x.k ≤ 255) :
    Calls Tryz.prog 57 #[C x] w fun e w' => e = .returned (.bool (fits x)) ∧ Below w.heap.size w w' := by
  obtain ⟨k, a, b, c, d⟩ := x
  simp only at k0 k1
  have hR0 : 0 < w.heap.size := World.block_lt_of_cell? w _ (hR 0 (by decide))
  by_cases h1 : 1 ≤ k
  · by_cases h2 : k ≤ 10
    · obtain ⟨r0, hr0⟩ : ∃ r, tab.getD (k.toNat * 8) 0 = r := ⟨_, rfl⟩
      obtain ⟨r1, hr1⟩ : ∃ r, tab.getD (k.toNat * 8 + 1) 0 = r := ⟨_, rfl⟩
      obtain ⟨r2, hr2⟩ : ∃ r, tab.getD (k.toNat * 8 + 2) 0 = r := ⟨_, rfl⟩
      obtain ⟨r3, hr3⟩ : ∃ r, tab.getD (k.toNat * 8 + 3) 0 = r := ⟨_, rfl⟩
      obtain ⟨r4, hr4⟩ : ∃ r, tab.getD (k.toNat * 8 + 4) 0 = r := ⟨_, rfl⟩
      obtain ⟨r5, hr5⟩ : ∃ r, tab.getD (k.toNat * 8 + 5) 0 = r := ⟨_, rfl⟩
      obtain ⟨r6, hr6⟩ : ∃ r, tab.getD (k.toNat * 8 + 6) 0 = r := ⟨_, rfl⟩
      obtain ⟨r7, hr7⟩ : ∃ r, tab.getD (k.toNat * 8 + 7) 0 = r := ⟨_, rfl⟩
      have g0 := hR (k.toNat * 8) (by omega)
      have g1 := hR (k.toNat * 8 + 1) (by omega)
      have g2 := hR (k.toNat * 8 + 2) (by omega)
      have g3 := hR (k.toNat * 8 + 3) (by omega)
      have g4 := hR (k.toNat * 8 + 4) (by omega)
      have g5 := hR (k.toNat * 8 + 5) (by omega)
      have g6 := hR (k.toNat * 8 + 6) (by omega)
      have g7 := hR (k.toNat * 8 + 7) (by omega)
      rw [hr0] at g0
      rw [hr1] at g1
      rw [hr2] at g2
      rw [hr3] at g3
      rw [hr4] at g4
      rw [hr5] at g5
      rw [hr6] at g6
      rw [hr7] at g7
      have HS := Lib.hid (show fits ⟨k, a, b, c, d⟩ = ((decide (r0 ≤ a) && decide (a ≤ r1)) && (decide (r2 ≤ b) && decide (b ≤ r3)) && (decide (r4 ≤ c) && decide (c ≤ r5)) && (decide (r6 ≤ d) && decide (d ≤ r7)) && extra ⟨k, a, b, c, d⟩) by
        subst hr0 hr1 hr2 hr3 hr4 hr5 hr6 hr7
        simp [fits, inLim, lim, Cmp.v, h1, h2])
      clear hR hr0 hr1 hr2 hr3 hr4 hr5 hr6 hr7
      go_enter Tryz.func57, Tryz.ntmps57
      go_wp2
      have ix0 : ∀ w, (Instr.index 126 (.agg #[.int .i64 r0, .int .i64 r1, .int .i64 r2, .int .i64 r3, .int .i64 r4, .int .i64 r5, .int .i64 r6, .int .i64 r7]) (.int .i64 0)).run Tryz.prog w = .ok (.agg #[.int .i64 r0, .int .i64 r1]) w := fun _ => by kernel_rfl
      have ix1 : ∀ w, (Instr.index 126 (.agg #[.int .i64 r0, .int .i64 r1, .int .i64 r2, .int .i64 r3, .int .i64 r4, .int .i64 r5, .int .i64 r6, .int .i64 r7]) (.int .i64 1)).run Tryz.prog w = .ok (.agg #[.int .i64 r2, .int .i64 r3]) w := fun _ => by kernel_rfl
      have ix2 : ∀ w, (Instr.index 126 (.agg #[.int .i64 r0, .int .i64 r1, .int .i64 r2, .int .i64 r3, .int .i64 r4, .int .i64 r5, .int .i64 r6, .int .i64 r7]) (.int .i64 2)).run Tryz.prog w = .ok (.agg #[.int .i64 r4, .int .i64 r5]) w := fun _ => by kernel_rfl
      have ix3 : ∀ w, (Instr.index 126 (.agg #[.int .i64 r0, .int .i64 r1, .int .i64 r2, .int .i64 r3, .int .i64 r4, .int .i64 r5, .int .i64 r6, .int .i64 r7]) (.int .i64 3)).run Tryz.prog w = .ok (.agg #[.int .i64 r6, .int .i64 r7]) w := fun _ => by kernel_rfl
      clear g0 g1 g2 g3 g4 g5 g6 g7
      go_loopw [17] (fun v17 wr => ∃ i : Nat, i ≤ 4 ∧ v17 = .int .i64 i ∧ Hid ((1 ≤ i → r0 ≤ a ∧ a ≤ r1) ∧ (2 ≤ i → r2 ≤ b ∧ b ≤ r3) ∧ (3 ≤ i → r4 ≤ c ∧ c ≤ r5) ∧ (4 ≤ i → r6 ≤ d ∧ d ≤ r7)) ∧ Bk wr w.heap.size #[.int .u8 k, .int .i64 a, .int .i64 b, .int .i64 c, .int .i64 d] 48 ∧ Below w.heap.size w wr) (fun v17 _ => 4 - (intOf v17).toNat)
      case atStart => exact ⟨0, by omega, rfl, Lib.hid ⟨fun h => absurd h (by omega), fun h => absurd h (by omega), fun h => absurd h (by omega), fun h => absurd h (by omega)⟩, Bk.made _ _ _, (Below.refl _ _).alloc (Nat.le_refl _) _⟩
      case round =>
        obtain ⟨i, hi, rfl, HI, hB, hb⟩ := hrel
        have hs := hb.size
        have c0 := hB.cell (v := .int .u8 k) 0 rfl
        have c1 := hB.cell (v := .int .i64 a) 1 rfl
        have c2 := hB.cell (v := .int .i64 b) 2 rfl
        have c3 := hB.cell (v := .int .i64 c) 3 rfl
        have c4 := hB.cell (v := .int .i64 d) 4 rfl
        have lt := hB.lt
        rcases (by omega : i = 0 ∨ i = 1 ∨ i = 2 ∨ i = 3 ∨ i = 4) with rfl | rfl | rfl | rfl | rfl
        · by_cases hlo : r0 ≤ a
          · by_cases hhi : a ≤ r1
            · have d1 : decide (a < r0) = false := by simp; omega
              have d2 : decide (r1 < a) = false := by simp; omega
              go_wp2
              go_quiet (fail)
              go_wp2
              go_roundw
              case rel => exact ⟨1, by omega, by go_num, Lib.hid ⟨fun _ => ⟨hlo, hhi⟩, fun h => absurd h (by omega), fun h => absurd h (by omega), fun h => absurd h (by omega)⟩, hB.alloc _, below_drewN (hb.alloc hs _) _⟩
              case measure => simp [intOf]
            · have d1 : decide (a < r0) = false := by simp; omega
              have d2 : decide (r1 < a) = true := by simp; omega
              go_wp2
              go_quiet (fail)
              go_wp2
              go_returns
              have e : decide (a ≤ r1) = false := by simp; omega
              exact ⟨ret_bool (by rw [HS.out]; simp [e]), below_drewN (hb.alloc hs _) _⟩
          · have d1 : decide (a < r0) = true := by simp; omega
            go_wp2
            go_quiet (fail)
            go_wp2
            go_returns
            have e : decide (r0 ≤ a) = false := by simp; omega
            exact ⟨ret_bool (by rw [HS.out]; simp [e]), below_drewN (hb.alloc hs _) _⟩
        · by_cases hlo : r2 ≤ b
          · by_cases hhi : b ≤ r3
            · have d1 : decide (b < r2) = false := by simp; omega
              have d2 : decide (r3 < b) = false := by simp; omega
              go_wp2
              go_quiet (fail)
              go_wp2
              go_roundw
              case rel => exact ⟨2, by omega, by go_num, Lib.hid ⟨fun _ => HI.out.1 (by omega), fun _ => ⟨hlo, hhi⟩, fun h => absurd h (by omega), fun h => absurd h (by omega)⟩, hB.alloc _, below_drewN (hb.alloc hs _) _⟩
              case measure => simp [intOf]
            · have d1 : decide (b < r2) = false := by simp; omega
              have d2 : decide (r3 < b) = true := by simp; omega
              go_wp2
              go_quiet (fail)
              go_wp2
              go_returns
              have e : decide (b ≤ r3) = false := by simp; omega
              exact ⟨ret_bool (by rw [HS.out]; simp [e]), below_drewN (hb.alloc hs _) _⟩
          · have d1 : decide (b < r2) = true := by simp; omega
            go_wp2
            go_quiet (fail)
            go_wp2
            go_returns
            have e : decide (r2 ≤ b) = false := by simp; omega
            exact ⟨ret_bool (by rw [HS.out]; simp [e]), below_drewN (hb.alloc hs _) _⟩
        · by_cases hlo : r4 ≤ c
          · by_cases hhi : c ≤ r5
            · have d1 : decide (c < r4) = false := by simp; omega
              have d2 : decide (r5 < c) = false := by simp; omega
              go_wp2
              go_quiet (fail)
              go_wp2
              go_roundw
              case rel => exact ⟨3, by omega, by go_num, Lib.hid ⟨fun _ => HI.out.1 (by omega), fun _ => HI.out.2.1 (by omega), fun _ => ⟨hlo, hhi⟩, fun h => absurd h (by omega)⟩, hB.alloc _, below_drewN (hb.alloc hs _) _⟩
              case measure => simp [intOf]
            · have d1 : decide (c < r4) = false := by simp; omega
              have d2 : decide (r5 < c) = true := by simp; omega
              go_wp2
              go_quiet (fail)
              go_wp2
              go_returns
              have e : decide (c ≤ r5) = false := by simp; omega
              exact ⟨ret_bool (by rw [HS.out]; simp [e]), below_drewN (hb.alloc hs _) _⟩
          · have d1 : decide (c < r4) = true := by simp; omega
            go_wp2
            go_quiet (fail)
            go_wp2
            go_returns
            have e : decide (r4 ≤ c) = false := by simp; omega
            exact ⟨ret_bool (by rw [HS.out]; simp [e]), below_drewN (hb.alloc hs _) _⟩
        · by_cases hlo : r6 ≤ d
          · by_cases hhi : d ≤ r7
            · have d1 : decide (d < r6) = false := by simp; omega
              have d2 : decide (r7 < d) = false := by simp; omega
              go_wp2
              go_quiet (fail)
              go_wp2
              go_roundw
              case rel => exact ⟨4, by omega, by go_num, Lib.hid ⟨fun _ => HI.out.1 (by omega), fun _ => HI.out.2.1 (by omega), fun _ => HI.out.2.2.1 (by omega), fun _ => ⟨hlo, hhi⟩⟩, hB.alloc _, below_drewN (hb.alloc hs _) _⟩
              case measure => simp [intOf]
            · have d1 : decide (d < r6) = false := by simp; omega
              have d2 : decide (r7 < d) = true := by simp; omega
              go_wp2
              go_quiet (fail)
              go_wp2
              go_returns
              have e : decide (d ≤ r7) = false := by simp; omega
              exact ⟨ret_bool (by rw [HS.out]; simp [e]), below_drewN (hb.alloc hs _) _⟩
          · have d1 : decide (d < r6) = true := by simp; omega
            go_wp2
            go_quiet (fail)
            go_wp2
            go_returns
            have e : decide (r6 ≤ d) = false := by simp; omega
            exact ⟨ret_bool (by rw [HS.out]; simp [e]), below_drewN (hb.alloc hs _) _⟩
        · have HX := Lib.hid (show fits ⟨k, a, b, c, d⟩ = extra ⟨k, a, b, c, d⟩ by
            rw [HS.out]
            obtain ⟨q1, q2, q3, q4⟩ := HI.out
            have q1 := q1 (by omega); have q2 := q2 (by omega); have q3 := q3 (by omega); have q4 := q4 (by omega)
            simp [q1, q2, q3, q4])
          by_cases h3 : k = 3
          · subst h3
            by_cases hc : c = 0
            · subst hc
              go_wp2
              go_returns
              exact ⟨ret_bool (by rw [HX.out]; simp [extra]), by go_grown⟩
            · by_cases hab : a = b
              · subst hab
                go_wp2
                go_returns
                exact ⟨ret_bool (by rw [HX.out]; simp [extra]), by go_grown⟩
              · go_wp2
                go_returns
                exact ⟨ret_bool (by rw [HX.out]; simp [extra, hc, hab]), by go_grown⟩
          · by_cases h5 : k = 5
            · subst h5
              have e0 : IntKind.i64.wrap (a.tmod 2) = a.tmod 2 := by
                have h1 := Int.tmod_lt_of_pos a (show (0 : Int) < 2 by decide)
                have h2 := Int.lt_tmod_of_pos a (show (0 : Int) < 2 by decide)
                rw [IntKind.wrap_i64]; omega
              have e2 := Int.mul_tdiv_add_tmod a 2
              have e3 := Int.tmod_lt_of_pos a (show (0 : Int) < 2 by decide)
              have e4 := Int.lt_tmod_of_pos a (show (0 : Int) < 2 by decide)
              by_cases ha : a.tmod 2 = 0
              · have e1 : (a.tmod 2 == 0) = true := by simp [ha]
                have HA := Lib.hid (show a % 2 = 0 by omega)
                clear ha e2 e3 e4
                go_wp2
                go_returns
                exact ⟨ret_bool (by rw [HX.out]; simp [extra]; exact HA.out), by go_grown⟩
              · have e1 : (a.tmod 2 == 0) = false := by simp [ha]
                have HA := Lib.hid (show ¬ a % 2 = 0 by omega)
                clear ha e2 e3 e4
                go_wp2
                go_returns
                exact ⟨ret_bool (by rw [HX.out]; simp [extra]; exact HA.out), by go_grown⟩
            · go_wp2
              go_returns
              exact ⟨ret_bool (by rw [HX.out]; simp [extra, h3, h5]), by go_grown⟩
    · clear hR
      go_enter Tryz.func57, Tryz.ntmps57
      go_wp2
      go_returns
      exact ⟨ret_bool (by simp [fits]; omega), by go_grown⟩
  · clear hR
    go_enter Tryz.func57, Tryz.ntmps57
    go_wp2
    go_returns
    exact ⟨ret_bool (by simp [fits]; omega), by go_grown⟩
end Go.Proofs.YtlcjkomfjgddeaaGreatDoor
