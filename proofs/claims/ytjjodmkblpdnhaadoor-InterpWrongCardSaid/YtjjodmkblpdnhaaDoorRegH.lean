/- The one walk of a region from a state in which some operations have come up already: the next ones in an order that is given (they read, compute, call), the last ones in one forced order (they write). -/
import Derived.Test.YtjjodmkblpdnhaaDoorReg2
set_option linter.unusedVariables false
set_option linter.unusedSimpArgs false
namespace Go.Proofs.YtjjodmkblpdnhaaDoor
open Go Go.RowKit Go.Sort

section
variable {P : Program} {ops : Array Oper} {md : Region.Mode} {w0 : World} {T : Posts}

structure InvH (md : Region.Mode) (ops : Array Oper) (l0 : Array Bool) (H : List Nat) (listed : Array Bool) : Prop where
  size : listed.size = ops.size
  closed : ∀ j oj, ops[j]? = some oj → listed.getD j false = true → ∀ e ∈ oj.after, Region.binds md e = true → listed.getD e.on false = true
  tail : ∀ t, t ∉ H → listed.getD t true = l0.getD t true
theorem InvH.set {l0 listed : Array Bool} {H : List Nat} {i : Nat} (h : InvH md ops l0 H listed) (hr : i ∈ Region.ready md ops listed) (hi : i ∈ H) : InvH md ops l0 H (listed.setIfInBounds i true) := by
  obtain ⟨hun, oi, hoi, hall⟩ := mem_ready.1 hr
  have his : i < listed.size := by rw [h.size]; exact (Array.getElem?_eq_some_iff.1 hoi).1
  refine ⟨by simp [h.size], fun j oj hj hl e he hb => ?_, fun t ht => ?_⟩
  · have up : ∀ k, listed.getD k false = true → (listed.setIfInBounds i true).getD k false = true := fun k hk => by
      by_cases hik : i = k
      · subst hik; simp [his]
      · rw [getD_set_ne false hik]; exact hk
    by_cases hij : i = j
    · subst hij
      have : oj = oi := Option.some.inj (hj.symm.trans hoi)
      subst this
      exact up _ (hall e he hb)
    · rw [getD_set_ne false hij] at hl
      exact up _ (h.closed j oj hj hl e he hb)
  · have hit : i ≠ t := fun e => ht (e ▸ hi)
    rw [getD_set_ne true hit]; exact h.tail t ht

def wpAnyH (P : Program) (T : Posts) (md : Region.Mode) (ops : Array Oper) (w0 : World) (H : List Nat) (L : Array Bool → Mem → Act → Prop) : Nat → Array Bool → Mem → Act → Prop
  | 0, listed, Γ, a => NE2 w0 Γ → L listed Γ a
  | f + 1, listed, Γ, a => NE2 w0 Γ →
    Region.ready md ops listed ≠ [] ∧ ∀ i ∈ Region.ready md ops listed, i ∈ H ∧ sOp2 P T ops w0 md i (wpAnyH P T md ops w0 H L f (listed.setIfInBounds i true)) Γ a
theorem wpAny_of_headH {g : Nat} {H : List Nat} {L : Array Bool → Mem → Act → Prop} {Q' : Exit → Act → World → Prop} (hL : ∀ listed Γ a w, Cls2 w0 Γ w → L listed Γ a → wpAny P md ops Q' g listed a w) :
    ∀ (f : Nat) (listed : Array Bool) (Γ : Mem) (a : Act) (w : World), Cls2 w0 Γ w → wpAnyH P T md ops w0 H L f listed Γ a → wpAny P md ops Q' (f + g) listed a w
  | 0, listed, Γ, a, w, hC, h => by rw [Nat.zero_add]; exact hL _ _ _ _ hC (h ⟨w, hC⟩)
  | f + 1, listed, Γ, a, w, hC, h => by
    rw [show f + 1 + g = (f + g) + 1 by omega]
    have h := h ⟨w, hC⟩
    refine ⟨fun h0 => absurd h0 h.1, fun i hi => ?_⟩
    obtain ⟨o, ho⟩ := ops_ready hi
    obtain ⟨s, hs, ha⟩ := (h.2 i hi).2 o ho
    exact wp_of_holds2 hC ho (fun Γ' a' w' hC' h' => wpAny_of_headH hL f _ Γ' a' w' hC' h') hs ha
theorem wpAnyH_first {H : List Nat} {l0 : Array Bool} {i : Nat} {oi : Oper} {s : Spec2} {L : Array Bool → Mem → Act → Prop} (hi : ops[i]? = some oi) (hsel : ∀ (j : Nat) (o : Oper) cs b, ops[j]? = some o → o.op ≠ .select cs b)
    (hlt : ∀ (listed : Array Bool) (i j : Nat), InvH md ops l0 H listed → i ∈ H → listed.getD i true = false → j ∈ Region.ready md ops listed → j ∈ H) (hin : i ∈ H)
    (hdone : ∀ listed Γ a, L listed Γ a → ∀ j ∈ Region.ready md ops listed, j ∉ H) :
    ∀ (f : Nat) (listed : Array Bool) (Γ : Mem) (a : Act), InvH md ops l0 H listed → (∀ k, listed.getD k true = false → Γ k = none) →
      (∀ j oj, ops[j]? = some oj → j ≠ i → listed.getD j true = false → (∀ e ∈ oj.after, Region.binds md e = true → e.on ≠ i) → oi.apart ops oj = true) →
      i ∈ Region.ready md ops listed → Holds2 P T ops w0 md oi a Γ s →
      After2 T w0 i oi (wpAnyH P T md ops w0 H L f (listed.setIfInBounds i true)) Γ a s → wpAnyH P T md ops w0 H L (f + 1) listed Γ a := by
  intro f
  induction f with
  | zero =>
    intro listed Γ a inv hΓ _ hr hy Hk ne
    have hun := (mem_ready.1 hr).1
    refine ⟨fun h => (by rw [h] at hr; cases hr), fun j hj => ?_⟩
    have hjn : j ∈ H := hlt listed i j inv hin hun hj
    refine ⟨hjn, ?_⟩
    by_cases hji : j = i
    · subst hji; exact fun o ho => by
        have : o = oi := Option.some.inj (ho.symm.trans hi)
        subst this
        exact ⟨s, hy, Hk⟩
    · obtain ⟨v, it, ho, hg⟩ := NE2_sM (i := i) hy ne
      exact absurd hjn (hdone _ _ _ ((Hk v it ho) hg) j (ready_mono hj hji))
  | succ f ih =>
    intro listed Γ a inv hΓ hfree hr hy Hk ne
    have hun := (mem_ready.1 hr).1
    refine ⟨fun h => (by rw [h] at hr; cases hr), fun j hj => ?_⟩
    have hjn : j ∈ H := hlt listed i j inv hin hun hj
    refine ⟨hjn, ?_⟩
    by_cases hji : j = i
    · subst hji; exact fun o ho => by
        have : o = oi := Option.some.inj (ho.symm.trans hi)
        subst this
        exact ⟨s, hy, Hk⟩
    · intro oj hoj
      obtain ⟨hjun, oj', hoj', hall⟩ := mem_ready.1 hj
      have e1 : oj' = oj := Option.some.inj (hoj'.symm.trans hoj)
      subst e1
      have hjw : ¬ waits md oj' i := waits_unready hj hoj hun
      have hiw : ¬ waits md oi j := waits_unready hr hi hjun
      have hap := hfree j oj' hoj hji hjun (fun e he hb heq => hjw ⟨e, he, hb, heq⟩)
      obtain ⟨p1, p2, p3⟩ := Oper.apart_spec hap
      have hsj := fun cs b => hsel j oj' cs b hoj
      have hsi := fun cs b => hsel i oi cs b hi
      have each : ∀ v it, Out T w0 s v it → NE2 w0 (sM i it Γ) → ∃ t, Holds2 P T ops w0 md oj' a Γ t ∧ ∀ u jt, Out T w0 t u jt → wpAnyH P T md ops w0 H L f ((listed.setIfInBounds i true).setIfInBounds j true) (sM j jt (sM i it Γ)) ((a.put oi.dst v).put oj'.dst u) := by
        intro v it ho hg
        obtain ⟨t, h1, h2⟩ := ((Hk v it ho) hg).2 j (ready_mono hj hji) |>.2 oj' hoj
        exact ⟨t, h1.same (execOp_put oj' hsj a oi.dst _ p1).symm (wanted_put oj' a oi.dst _ p1).symm (fun w hw => (clsFor_sM hjw w).2 hw), h2⟩
      obtain ⟨v0, it0, ho0, hg0⟩ := NE2_sM (i := i) hy ne
      obtain ⟨t, ht, ht2⟩ := each v0 it0 ho0 hg0
      refine ⟨t, ht, fun u jt hu => ?_⟩
      have hfree' : ∀ k ok, ops[k]? = some ok → k ≠ i → (listed.setIfInBounds j true).getD k true = false →
          (∀ e ∈ ok.after, Region.binds md e = true → e.on ≠ i) → oi.apart ops ok = true := fun k ok hk hki hun hno => by
        refine hfree k ok hk hki ?_ hno
        by_cases hjk : j = k
        · subst hjk; exact hjun
        · rw [getD_set_ne true hjk] at hun; exact hun
      have hjs : j < listed.size := by
        rcases Nat.lt_or_ge j listed.size with h | h
        · exact h
        · rw [inv.size] at h; have := (Array.getElem?_eq_some_iff.1 hoj).1; omega
      have hΓ' : ∀ k, (listed.setIfInBounds j true).getD k true = false → sM j jt Γ k = none := fun k hk => by
        by_cases hjk : j = k
        · subst hjk; simp [hjs] at hk
        · rw [getD_set_ne true hjk] at hk
          rw [sM_other (Ne.symm hjk)]; exact hΓ k hk
      refine ih (listed.setIfInBounds j true) (sM j jt Γ) (a.put oj'.dst u) (inv.set hj hjn) hΓ' hfree' (ready_mono hr (Ne.symm hji))
        (hy.same (execOp_put oi hsi a oj'.dst _ p3) (wanted_put oi a oj'.dst _ p3) (fun w hw => (clsFor_sM hiw w).1 hw)) (fun v it ho => ?_)
      have hgo : NE2 w0 (sM i it (sM j jt Γ)) → wpAnyH P T md ops w0 H L f ((listed.setIfInBounds j true).setIfInBounds i true) (sM i it (sM j jt Γ)) ((a.put oj'.dst u).put oi.dst v) := by
        intro hne
        rw [← sM_comm (Ne.symm hji)] at hne ⊢
        have hne' : NE2 w0 (sM i it Γ) := NE2_of_sM (by rw [sM_other hji]; exact hΓ j hjun) hne
        obtain ⟨t', ht', ht2'⟩ := each v it ho hne'
        obtain ⟨w, hw⟩ := ne
        have := Holds2.unique hw.for ht' ht
        subst this
        have h3 := ht2' u jt hu
        rw [Array.setIfInBounds_comm _ _ hji, ← Act.put_comm a v u p2]
        exact h3
      cases f with
      | zero => exact fun hne => hgo hne hne
      | succ f => exact fun hne => hgo hne hne

def wpLowH (P : Program) (T : Posts) (ops : Array Oper) (w0 : World) (Lq : Mem → Act → Prop) : List Nat → Mem → Act → Prop
  | [], Γ, a => Lq Γ a
  | k :: rest, Γ, a => ∀ o, ops[k]? = some o → ∃ s, Holds2 P T ops w0 .any o a Γ s ∧ After2 T w0 k o (wpLowH P T ops w0 Lq rest) Γ a s
def seqL (md : Region.Mode) (ops : Array Oper) : List Nat → Array Bool → Bool
  | [], listed => (Region.ready md ops listed).isEmpty
  | t :: ts, listed => decide (Region.ready md ops listed = [t]) && seqL md ops ts (listed.setIfInBounds t true)
def lexL (md : Region.Mode) (ops : Array Oper) (ts : List Nat) : List Nat → Array Bool → Bool
  | [], listed => seqL md ops ts listed
  | k :: l, listed => (Region.ready md ops listed).contains k && Region.free md ops listed k && lexL md ops ts l (listed.setIfInBounds k true)
/-- the operations of the tail, one behind the other -/
def wpSeq (P : Program) (ops : Array Oper) (Q : Exit → Act → World → Prop) : List Nat → Act → World → Prop
  | [], a, w => Q .normal a w
  | t :: ts, a, w => wpOp P ops Q t (wpSeq P ops Q ts) a w
theorem wpAny_of_seqL {Q' : Exit → Act → World → Prop} : ∀ (ts : List Nat) (listed : Array Bool) (a : Act) (w : World), seqL md ops ts listed = true → wpSeq P ops Q' ts a w → wpAny P md ops Q' ts.length listed a w
  | [], _, _, _, hB, h => ⟨by simpa [seqL] using hB, h⟩
  | t :: ts, listed, a, w, hB, h => by
    simp only [seqL, Bool.and_eq_true, decide_eq_true_eq] at hB
    refine ⟨fun h1 => (by rw [hB.1] at h1; cases h1), fun i hi => ?_⟩
    rw [hB.1] at hi
    have hik : i = t := by simpa using hi
    subst hik
    exact wpOp_mono (fun a' w' h' => wpAny_of_seqL ts _ a' w' hB.2 h') h
theorem wpAnyH_lex {H ts : List Nat} {l0 : Array Bool} {Lq : Mem → Act → Prop} (hsel : Region.noSelect ops = true) (hts : ∀ t ∈ ts, t ∉ H)
    (hlt : ∀ (listed : Array Bool) (i j : Nat), InvH .any ops l0 H listed → i ∈ H → listed.getD i true = false → j ∈ Region.ready .any ops listed → j ∈ H) :
    ∀ (l : List Nat) (listed : Array Bool) (Γ : Mem) (a : Act), (∀ k ∈ l, k ∈ H) → InvH .any ops l0 H listed → (∀ k, listed.getD k true = false → Γ k = none) →
    lexL .any ops ts l listed = true → wpLowH P T ops w0 Lq l Γ a →
    wpAnyH P T .any ops w0 H (fun listed' Γ' a' => seqL .any ops ts listed' = true ∧ Lq Γ' a') l.length listed Γ a
  | [], listed, Γ, a, _, _, _, hB, h => fun _ => ⟨hB, h⟩
  | k :: l, listed, Γ, a, hl, inv, hΓ, hB, h => by
    simp only [lexL, Bool.and_eq_true] at hB
    obtain ⟨⟨hr, hf⟩, hB'⟩ := hB
    have hr' : k ∈ Region.ready .any ops listed := by simpa using hr
    have hkH : k ∈ H := hl k (List.mem_cons_self ..)
    obtain ⟨o, h0⟩ := ops_ready hr'
    obtain ⟨s, hy, hK⟩ := h o h0
    have hdone : ∀ (listed' : Array Bool) (Γ' : Mem) (a' : Act), (seqL .any ops ts listed' = true ∧ Lq Γ' a') → ∀ j ∈ Region.ready .any ops listed', j ∉ H := fun listed' Γ' a' hL j hj => by
      cases ts with
      | nil =>
        have h1 := hL.1
        simp only [seqL, List.isEmpty_iff] at h1
        rw [h1] at hj; cases hj
      | cons t ts =>
        have h1 := hL.1
        simp only [seqL, Bool.and_eq_true, decide_eq_true_eq] at h1
        rw [h1.1] at hj
        have : j = t := by simpa using hj
        subst this
        exact hts _ (List.mem_cons_self ..)
    refine wpAnyH_first h0 (Region.noSelect_spec hsel) hlt hkH hdone l.length listed Γ a inv hΓ (Region.free_spec h0 hf) hr' hy (fun v it ho => ?_)
    have hks : k < listed.size := by
      rcases Nat.lt_or_ge k listed.size with h | h
      · exact h
      · rw [inv.size] at h; have := (Array.getElem?_eq_some_iff.1 h0).1; omega
    refine wpAnyH_lex hsel hts hlt l _ _ _ (fun m hm => hl m (List.mem_cons_of_mem _ hm)) (inv.set hr' hkH) (fun m hm => ?_) hB' (hK v it ho)
    by_cases hkm : k = m
    · subst hkm; simp [hks] at hm
    · rw [getD_set_ne true hkm] at hm
      rw [sM_other (Ne.symm hkm)]; exact hΓ m hm

/-- does operation j wait for i -/
def edgeB (ops : Array Oper) (j i : Nat) : Bool := match ops[j]? with | some o => o.after.any (fun e => Region.binds .any e && e.on == i) | none => false
theorem edgeB_spec {j i : Nat} (h : edgeB ops j i = true) : ∃ o, ops[j]? = some o ∧ ∃ e ∈ o.after, Region.binds .any e = true ∧ e.on = i := by
  unfold edgeB at h
  cases hoj : ops[j]? with
  | none => rw [hoj] at h; cases h
  | some o =>
    rw [hoj] at h
    simp only [Array.any_eq_true'] at h
    obtain ⟨e, he, hb⟩ := h
    simp only [Bool.and_eq_true, beq_iff_eq] at hb
    exact ⟨o, rfl, e, he, hb⟩
/-- each of the list is waited for by one ahead of it, or by the operation t -/
def justB (ops : Array Oper) (t : Nat) : List Nat → List Nat → Bool
  | _, [] => true
  | seen, i :: rest => (edgeB ops t i || seen.any fun s => edgeB ops s i) && justB ops t (i :: seen) rest
theorem justB_spec {t : Nat} {l0 listed : Array Bool} {H : List Nat} (inv : InvH .any ops l0 H listed) (hr : t ∈ Region.ready .any ops listed) :
    ∀ (l seen : List Nat), (∀ s ∈ seen, listed.getD s false = true) → justB ops t seen l = true → ∀ i ∈ l, listed.getD i false = true
  | [], _, _, _, i, hi => by cases hi
  | k :: l, seen, hs, h, i, hi => by
    simp only [justB, Bool.and_eq_true, Bool.or_eq_true] at h
    have hk : listed.getD k false = true := by
      rcases h.1 with h1 | h1
      · obtain ⟨o, ho, e, he, hb, hon⟩ := edgeB_spec h1
        obtain ⟨_, o', ho', hall⟩ := mem_ready.1 hr
        have : o' = o := Option.some.inj (ho'.symm.trans ho)
        subst this
        rw [← hon]; exact hall e he hb
      · obtain ⟨s, hs1, hs2⟩ := List.any_eq_true.1 h1
        obtain ⟨o, ho, e, he, hb, hon⟩ := edgeB_spec hs2
        rw [← hon]; exact inv.closed s o ho (hs s hs1) e he hb
    rcases List.mem_cons.1 hi with rfl | hi
    · exact hk
    · exact justB_spec inv hr l (k :: seen) (fun s hs' => by rcases List.mem_cons.1 hs' with rfl | h'; exact hk; exact hs s h') h.2 i hi
/-- the tail's operations each wait for the one ahead -/
def tailB (ops : Array Oper) : List Nat → Bool
  | a :: b :: l => edgeB ops b a && tailB ops (b :: l)
  | _ => true
def closedB (ops : Array Oper) (l0 : Array Bool) : Bool := (List.range ops.size).all fun j => !l0.getD j false || (match ops[j]? with | some o => o.after.all (fun e => !Region.binds .any e || l0.getD e.on false) | none => true)
/-- all that is asked of the lists -/
def lowHB (ops : Array Oper) (l0 : Array Bool) (H just ts : List Nat) : Bool :=
  Region.noSelect ops && decide (l0.size = ops.size) && closedB ops l0 && ((List.range ops.size).all fun j => l0.getD j false || H.contains j || ts.contains j) &&
    (H.all fun j => just.contains j && !ts.contains j && !l0.getD j true) && (ts.all fun j => !l0.getD j true) && (match ts with | t :: _ => justB ops t [] just | [] => false) && tailB ops ts && lexL .any ops ts H l0
theorem tailB_spec : ∀ (ts : List Nat), tailB ops ts = true → ∀ j ∈ ts, (ts.head? = some j ∨ ∃ k ∈ ts, edgeB ops j k = true)
  | [], _, j, hj => by cases hj
  | [a], _, j, hj => by
    have : j = a := by simpa using hj
    subst this; exact .inl rfl
  | a :: b :: l, h, j, hj => by
    simp only [tailB, Bool.and_eq_true] at h
    rcases List.mem_cons.1 hj with rfl | hj
    · exact .inl rfl
    · rcases tailB_spec (b :: l) h.2 j hj with h1 | ⟨k, hk, he⟩
      · have : b = j := by simpa using h1
        subst this
        exact .inr ⟨a, List.mem_cons_self .., h.1⟩
      · exact .inr ⟨k, List.mem_cons_of_mem _ hk, he⟩
theorem any_lowH {Q : Exit → Act → World → Prop} {a : Act} {w : World} (T : Posts) (l0 : Array Bool) (H just ts : List Nat) (hB : lowHB ops l0 H just ts = true)
    (h : wpLowH P T ops w (fun Γ a' => ∀ w', Cls2 w Γ w' → wpSeq P ops Q ts a' w') H (fun _ => none) a) : wpAny P .any ops Q (H.length + ts.length) l0 a w := by
  simp only [lowHB, Bool.and_eq_true, decide_eq_true_eq, List.all_eq_true, List.mem_range, Bool.or_eq_true, Bool.not_eq_true', List.contains_iff_mem] at hB
  obtain ⟨⟨⟨⟨⟨⟨⟨⟨hsel, hsz⟩, hcl⟩, hall⟩, hH⟩, htu⟩, hjust⟩, htail⟩, hlex⟩ := hB
  have hHts : ∀ t ∈ ts, t ∉ H := fun t ht hh => by
    have := (hH t hh).1.2
    rw [← Bool.not_eq_true, List.contains_iff_mem] at this
    exact this ht
  have inv0 : InvH .any ops l0 H l0 := ⟨hsz, fun j oj hj hl e he hb => by
    have hjs := (Array.getElem?_eq_some_iff.1 hj).1
    unfold closedB at hcl
    have h1 := List.all_eq_true.1 hcl j (List.mem_range.2 hjs)
    rw [hl, hj] at h1
    simp only [Bool.not_true, Bool.false_or, Array.all_eq_true'] at h1
    have h2 := h1 e he
    rw [hb] at h2
    simpa using h2, fun t _ => rfl⟩
  have hlt : ∀ (listed : Array Bool) (i j : Nat), InvH .any ops l0 H listed → i ∈ H → listed.getD i true = false → j ∈ Region.ready .any ops listed → j ∈ H := fun listed i j inv hi hun hj => by
    refine Classical.byContradiction fun hjH => ?_
    obtain ⟨hjun, oj, hoj, hready⟩ := mem_ready.1 hj
    have hjs := (Array.getElem?_eq_some_iff.1 hoj).1
    have hj0 : l0.getD j true = false := by rw [← inv.tail j hjH]; exact hjun
    have hjt : j ∈ ts := by
      rcases hall j hjs with (h1 | h1) | h1
      · rw [getD_both hj0] at h1; cases h1
      · exact absurd h1 hjH
      · exact h1
    rcases tailB_spec ts htail j hjt with h1 | ⟨k, hk, he⟩
    · cases ts with
      | nil => cases hjt
      | cons t ts =>
        have : t = j := by simpa using h1
        subst this
        have h2 := justB_spec inv hj just [] (fun s hs => by cases hs) hjust i (hH i hi).1.1
        rw [getD_both hun] at h2; cases h2
    · obtain ⟨o, ho, e, he', hb, hon⟩ := edgeB_spec he
      have : o = oj := Option.some.inj (ho.symm.trans hoj)
      subst this
      have h2 := hready e he' hb
      rw [hon] at h2
      have h3 : listed.getD k true = false := by rw [inv.tail k (hHts k hk)]; exact htu k hk
      rw [getD_both h3] at h2; cases h2
  have Hx := wpAnyH_lex (w0 := w) (T := T) (P := P) hsel hHts hlt H l0 (fun _ => none) a (fun k hk => hk) inv0 (fun _ _ => rfl) hlex h
  exact wpAny_of_headH (T := T) (g := ts.length) (w0 := w) (fun listed Γ a' w' hC hL => wpAny_of_seqL ts listed a' w' hL.1 (hL.2 w' hC)) _ _ (fun _ => none) _ w
    ⟨Below.refl _ _, fun i x hi => (by cases hi), fun i x hi => (by cases hi), fun i x g hi => (by cases hi), fun i j x y g hi => (by cases hi)⟩ Hx
theorem lowH_nil {Lq : Mem → Act → Prop} {Γ : Mem} {a : Act} (h : Lq Γ a) : wpLowH P T ops w0 Lq [] Γ a := h
theorem lowH_step {Lq : Mem → Act → Prop} {k : Nat} {rest : List Nat} {Γ : Mem} {a : Act} (o : Oper) (ho : ops[k]? = some o)
    (h : ∀ K : Act → Prop, (∀ a, wpLowH P T ops w0 Lq rest Γ a → K a) → if Region.wanted o (yielded ops a.tmps) then opLow2 P T o a w0 K else K (a.put o.dst undef)) : wpLowH P T ops w0 Lq (k :: rest) Γ a := by
  intro o' ho'
  obtain rfl : o = o' := Option.some.inj (ho.symm.trans ho')
  have h := h (wpLowH P T ops w0 Lq rest Γ) (fun _ h => h)
  by_cases hw : Region.wanted o (yielded ops a.tmps) = true
  · rw [if_pos hw] at h
    obtain ⟨v, h1, h2⟩ := h
    refine ⟨.quiet v, .inl ⟨hw, fun w hC => ?_⟩, fun u it ho => by obtain ⟨rfl, rfl⟩ := ho; exact h2⟩
    obtain ⟨p, rfl⟩ := regrown_of_below hC.1
    have := h1 p
    generalize (execOp a.eval o).run P (grow (redrawn w0 p.d) p.os) = r at *
    cases r with
    | ok n w' => cases n <;> exact this
    | halt x w' => exact this
  · rw [if_neg hw] at h
    exact ⟨.quiet undef, .inr ⟨by simpa using hw, rfl⟩, fun u it ho => by obtain ⟨rfl, rfl⟩ := ho; exact h⟩
end
end Go.Proofs.YtjjodmkblpdnhaaDoor
