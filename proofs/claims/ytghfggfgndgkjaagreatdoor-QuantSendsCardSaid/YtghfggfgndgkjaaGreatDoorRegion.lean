/- Regions that draw their order: one walk, in the order of the text, serves every order, also where calls make memory and where blocks are made among the calls (alloc, buildSlice); what writes comes last, in one order. -/
import Derived.StillTail
import Derived.Below
import Derived.Barred
import Derived.Lib.QuietBelow
set_option linter.unusedVariables false
set_option linter.unusedSimpArgs false
namespace Go.Proofs.YtghfggfgndgkjaaGreatDoor
open Go Go.RowKit Go.Sort

/-- two contracts on one call speak of one end -/
theorem calls_agree {P : Program} {f : FuncId} {args : Array Value} {w : World} {v v' : Value} {A A' : World → Prop}
    (h : Calls P f args w fun e w' => e = .returned v ∧ A w') (h' : Calls P f args w fun e w' => e = .returned v' ∧ A' w') (hi : P.inits.idxOf? f = none) : v = v' := by
  have h : Calls P f args w (fun | .returned u, w' => u = v | _, _ => False) := h.mono fun e w' ⟨he, _⟩ => by subst he; rfl
  have h' : Calls P f args w (fun | .returned u, w' => u = v' | _, _ => False) := h'.mono fun e w' ⟨he, _⟩ => by subst he; rfl
  obtain ⟨n, u, w1, e1, r1⟩ := Calls.done (R := fun u _ => u = v) h hi
  obtain ⟨m, u', w2, e2, r2⟩ := Calls.done (R := fun u _ => u = v') h' hi
  have a := runN_ended e1 m
  have b := runN_ended e2 n
  rw [Nat.add_comm, a] at b
  injection b with ho hw
  injection ho with hv
  rw [← r1, ← r2, hv]

/-- blocks that the region has made, by the operation's number -/
def Made := Nat → Option (Nat × Obj)
def Made.upd (Γ : Made) (i g : Nat) (o : Obj) : Made := fun j => if j = i then some (g, o) else Γ j
theorem Made.upd_comm (Γ : Made) {i j : Nat} (h : i ≠ j) (g g' : Nat) (o o' : Obj) : (Γ.upd i g o).upd j g' o' = (Γ.upd j g' o').upd i g o := by
  funext k
  unfold Made.upd
  by_cases h1 : k = j
  · subst h1; rw [if_pos rfl, if_neg (Ne.symm h), if_pos rfl]
  · rw [if_neg h1]
    by_cases h2 : k = i
    · rw [if_pos h2, if_pos h2]
    · rw [if_neg h2, if_neg h2, if_neg h1]

/-- what a made block is given as -/
inductive Form where
  | ptr
  | slice (n c : Nat)
def Form.at : Form → Nat → Value
  | .ptr, g => .pointer (some ⟨g, 0, none⟩)
  | .slice n c, g => .slice (some ⟨g, 0, none⟩) n c
theorem Form.at_inj {f f' : Form} {g : Nat} (h : f.at g = f'.at g) : f = f' := by
  cases f <;> cases f' <;> simp [Form.at] at h ⊢
  exact h

section
variable {P : Program} {ops : Array Oper} {md : Region.Mode} {w0 : World}

def waits (md : Region.Mode) (o : Oper) (i : Nat) : Prop := ∃ e ∈ o.after, Region.binds md e = true ∧ e.on = i
/-- the worlds that may be there: as the first one was, but for new blocks -/
structure Cls (w0 : World) (Γ : Made) (w : World) : Prop where
  below : Below w0.heap.size w0 w
  made : ∀ i g o, Γ i = some (g, o) → w0.heap.size ≤ g ∧ w.heap[g]? = some o
  apart : ∀ i j g o o', Γ i = some (g, o) → Γ j = some (g, o') → i = j
/-- what an operation may know of them: the blocks that it waits for -/
def ClsFor (w0 : World) (md : Region.Mode) (op : Oper) (Γ : Made) (w : World) : Prop := Below w0.heap.size w0 w ∧ ∀ i g o, waits md op i → Γ i = some (g, o) → w0.heap.size ≤ g ∧ w.heap[g]? = some o
theorem Cls.for {op : Oper} {Γ : Made} {w : World} (h : Cls w0 Γ w) : ClsFor w0 md op Γ w := ⟨h.1, fun i g o _ => h.made i g o⟩
theorem Cls.later {Γ : Made} {w w' : World} (h : Cls w0 Γ w) (hb : Below w.heap.size w w') : Cls w0 Γ w' :=
  ⟨h.1.trans (hb.mono h.1.size), fun i g o hi => by
    have h1 := h.made i g o hi
    refine ⟨h1.1, ?_⟩
    rw [hb.block g (Array.getElem?_eq_some_iff.1 h1.2).1]; exact h1.2, h.apart⟩

def quietUpon (P : Program) (w : World) (v : Value) : Result Next → Prop
  | .ok (.value u) w' => w' = w ∧ u = v
  | .ok .skip w' => w' = w ∧ v = undef
  | .ok (.enter f args) w' => w' = w ∧ P.inits.idxOf? f = none ∧ Calls P f args w (fun e w'' => e = .returned v ∧ Below w.heap.size w w'')
  | _ => False
def locUpon (w : World) (f : Form) (o : Obj) : Result Next → Prop
  | .ok (.value u) w' => u = f.at w.heap.size ∧ w' = w.alloc o
  | _ => False

/-- what an operation comes to -/
inductive Spec where
  | quiet (v : Value)
  | loc (f : Form) (o : Obj)

def Holds (P : Program) (ops : Array Oper) (w0 : World) (md : Region.Mode) (op : Oper) (a : Act) (Γ : Made) : Spec → Prop
  | .quiet v => (Region.wanted op (yielded ops a.tmps) = true ∧ ∀ w, ClsFor w0 md op Γ w → quietUpon P w v ((execOp a.eval op).run P w)) ∨ (Region.wanted op (yielded ops a.tmps) = false ∧ v = undef)
  | .loc f o => Region.wanted op (yielded ops a.tmps) = true ∧ ∀ w, ClsFor w0 md op Γ w → locUpon w f o ((execOp a.eval op).run P w)
def After (i : Nat) (op : Oper) (K : Made → Act → Prop) (Γ : Made) (a : Act) : Spec → Prop
  | .quiet v => K Γ (a.put op.dst v)
  | .loc f o => ∀ g, K (Γ.upd i g o) (a.put op.dst (f.at g))

theorem Holds.same {op : Oper} {a a' : Act} {Γ Γ' : Made} {s : Spec} (h : Holds P ops w0 md op a Γ s) (he : execOp a'.eval op = execOp a.eval op)
    (hw : Region.wanted op (yielded ops a'.tmps) = Region.wanted op (yielded ops a.tmps)) (hc : ∀ w, ClsFor w0 md op Γ' w → ClsFor w0 md op Γ w) : Holds P ops w0 md op a' Γ' s := by
  cases s with
  | quiet v =>
    unfold Holds at *
    rw [he, hw]
    exact h.imp (fun ⟨h1, h2⟩ => ⟨h1, fun w hw => h2 w (hc w hw)⟩) id
  | loc f o =>
    unfold Holds at *
    rw [he, hw]
    exact ⟨h.1, fun w hw => h.2 w (hc w hw)⟩

theorem alloc_ne (w : World) (o : Obj) : w.alloc o ≠ w := fun h => by
  have := congrArg (fun w : World => w.heap.size) h
  simp at this
theorem alloc_inj (w : World) {o o' : Obj} (h : w.alloc o = w.alloc o') : o = o' := by
  have := congrArg (fun v : World => v.heap[w.heap.size]?) h
  have e : ∀ x : Obj, (w.alloc x).heap[w.heap.size]? = some x := fun x => by show (w.heap.push x)[w.heap.size]? = some x; simp
  simp only [e] at this
  exact Option.some.inj this

theorem Holds.unique {op : Oper} {a : Act} {Γ : Made} {s s' : Spec} {w : World} (hw : ClsFor w0 md op Γ w) (h : Holds P ops w0 md op a Γ s) (h' : Holds P ops w0 md op a Γ s') : s = s' := by
  cases s with
  | quiet v =>
    cases s' with
    | quiet v' =>
      rcases h with ⟨h1, h2⟩ | ⟨h1, h2⟩ <;> rcases h' with ⟨h3, h4⟩ | ⟨h3, h4⟩
      · have h2 := h2 w hw
        have h4 := h4 w hw
        generalize (execOp a.eval op).run P w = r at *
        cases r with
        | ok n w' =>
          cases n <;> simp only [quietUpon] at h2 h4
          case value u => rw [← h2.2, ← h4.2]
          case skip => rw [h2.2, h4.2]
          case enter f args => rw [calls_agree h2.2.2 h4.2.2 h2.2.1]
        | halt x w' => simp only [quietUpon] at h2
      · rw [h1] at h3; cases h3
      · rw [h1] at h3; cases h3
      · rw [h2, h4]
    | loc f o =>
      rcases h with ⟨h1, h2⟩ | ⟨h1, h2⟩
      · have h2 := h2 w hw
        have h4 := h'.2 w hw
        generalize (execOp a.eval op).run P w = r at *
        cases r with
        | ok n w' =>
          cases n <;> simp only [quietUpon, locUpon] at h2 h4
          case value u => rw [h2.1] at h4; exact absurd h4.2.symm (alloc_ne _ _)
        | halt x w' => simp only [quietUpon] at h2
      · have h5 := h'.1; rw [h1] at h5; cases h5
  | loc f o =>
    cases s' with
    | quiet v' =>
      rcases h' with ⟨h1, h2⟩ | ⟨h1, h2⟩
      · have h2 := h2 w hw
        have h4 := h.2 w hw
        generalize (execOp a.eval op).run P w = r at *
        cases r with
        | ok n w' =>
          cases n <;> simp only [quietUpon, locUpon] at h2 h4
          case value u => rw [h2.1] at h4; exact absurd h4.2.symm (alloc_ne _ _)
        | halt x w' => simp only [quietUpon] at h2
      · have h5 := h.1; rw [h1] at h5; cases h5
    | loc f' o' =>
      have h2 := h.2 w hw
      have h4 := h'.2 w hw
      generalize (execOp a.eval op).run P w = r at *
      cases r with
      | ok n w' =>
        cases n <;> simp only [locUpon] at h2 h4
        case value u =>
          have e1 := Form.at_inj (h2.1.symm.trans h4.1)
          have e2 := alloc_inj _ (h2.2.symm.trans h4.2)
          rw [e1, e2]
      | halt x w' => simp only [locUpon] at h2

/-- operation i comes up -/
def sOp (P : Program) (ops : Array Oper) (w0 : World) (md : Region.Mode) (i : Nat) (K : Made → Act → Prop) (Γ : Made) (a : Act) : Prop :=
  ∀ o, ops[i]? = some o → ∃ s, Holds P ops w0 md o a Γ s ∧ After i o K Γ a s
def NE (w0 : World) (Γ : Made) : Prop := ∃ w, Cls w0 Γ w
/-- whatever order is picked among the first n operations -/
def wpAnyB (P : Program) (md : Region.Mode) (ops : Array Oper) (w0 : World) (n : Nat) (L : Array Bool → Made → Act → Prop) : Nat → Array Bool → Made → Act → Prop
  | 0, listed, Γ, a => NE w0 Γ → L listed Γ a
  | f + 1, listed, Γ, a => NE w0 Γ →
    Region.ready md ops listed ≠ [] ∧ ∀ i ∈ Region.ready md ops listed, i < n ∧ sOp P ops w0 md i (wpAnyB P md ops w0 n L f (listed.setIfInBounds i true)) Γ a

theorem ops_ready {listed : Array Bool} {i : Nat} (h : i ∈ Region.ready md ops listed) : ∃ o, ops[i]? = some o := by
  obtain ⟨_, o, ho, _⟩ := mem_ready.1 h
  exact ⟨o, ho⟩

theorem Cls.upd {Γ : Made} {w : World} (h : Cls w0 Γ w) (i : Nat) (o : Obj) : Cls w0 (Γ.upd i w.heap.size o) (w.alloc o) := by
  refine ⟨h.1.alloc h.1.size o, fun j g o' hj => ?_, fun j k g o1 o2 hj hk => ?_⟩
  · unfold Made.upd at hj
    split at hj
    · simp only [Option.some.injEq, Prod.mk.injEq] at hj
      obtain ⟨rfl, rfl⟩ := hj
      refine ⟨h.1.size, ?_⟩
      show (w.heap.push o)[w.heap.size]? = some o
      simp
    · have h1 := h.made j g o' hj
      have h2 := (Array.getElem?_eq_some_iff.1 h1.2).1
      refine ⟨h1.1, ?_⟩
      show (w.heap.push o)[g]? = some o'
      rw [Array.getElem?_push, if_neg (by omega)]; exact h1.2
  · unfold Made.upd at hj hk
    by_cases e1 : j = i <;> by_cases e2 : k = i
    · rw [e1, e2]
    · rw [if_pos e1] at hj
      rw [if_neg e2] at hk
      simp only [Option.some.injEq, Prod.mk.injEq] at hj
      have := (Array.getElem?_eq_some_iff.1 (h.made k g o2 hk).2).1
      omega
    · rw [if_neg e1] at hj
      rw [if_pos e2] at hk
      simp only [Option.some.injEq, Prod.mk.injEq] at hk
      have := (Array.getElem?_eq_some_iff.1 (h.made j g o1 hj).2).1
      omega
    · rw [if_neg e1] at hj
      rw [if_neg e2] at hk
      exact h.apart j k g o1 o2 hj hk
theorem Cls.of_upd {Γ : Made} {w : World} {i g : Nat} {o : Obj} (hi : Γ i = none) (h : Cls w0 (Γ.upd i g o) w) : Cls w0 Γ w := by
  have e : ∀ j g' o', Γ j = some (g', o') → (Γ.upd i g o) j = some (g', o') := fun j g' o' hj => by
    unfold Made.upd
    rw [if_neg (fun e => by rw [e, hi] at hj; cases hj)]; exact hj
  exact ⟨h.1, fun j g' o' hj => h.made j g' o' (e j g' o' hj), fun j k g' o1 o2 hj hk => h.apart j k g' o1 o2 (e _ _ _ hj) (e _ _ _ hk)⟩

theorem wp_of_holds {op : Oper} {i : Nat} {a : Act} {Γ : Made} {s : Spec} {K : Made → Act → Prop} {K' : Act → World → Prop} {Q' : Exit → Act → World → Prop} {w : World} (hC : Cls w0 Γ w)
    (hi : ops[i]? = some op) (h : ∀ Γ' a' w', Cls w0 Γ' w' → K Γ' a' → K' a' w') (hh : Holds P ops w0 md op a Γ s) (ha : After i op K Γ a s) : wpOp P ops Q' i K' a w := by
  unfold wpOp
  simp only [hi]
  cases s with
  | quiet v =>
    rcases hh with ⟨h1, h2⟩ | ⟨h1, rfl⟩
    · rw [h1, if_pos rfl]
      refine .inl ?_
      have h2 := h2 w hC.for
      unfold Oper.wp
      generalize (execOp a.eval op).run P w = r at *
      cases r with
      | ok n w' =>
        cases n <;> simp only [quietUpon] at h2 <;> simp only [Oper.upon]
        case value u => obtain ⟨rfl, rfl⟩ := h2; exact h _ _ _ hC ha
        case skip => obtain ⟨rfl, rfl⟩ := h2; exact h _ _ _ hC ha
        case enter f args =>
          obtain ⟨rfl, _, hc⟩ := h2
          exact hc.mono fun e w'' ⟨he, hb⟩ => by subst he; exact h _ _ _ (hC.later hb) ha
      | halt x w' => simp only [quietUpon] at h2
    · rw [h1, if_neg (by decide)]
      exact h _ _ _ hC ha
  | loc f o =>
    rw [hh.1, if_pos rfl]
    refine .inl ?_
    have h2 := hh.2 w hC.for
    unfold Oper.wp
    generalize (execOp a.eval op).run P w = r at *
    cases r with
    | ok n w' =>
      cases n <;> simp only [locUpon] at h2 <;> simp only [Oper.upon]
      case value u => obtain ⟨rfl, rfl⟩ := h2; exact h _ _ _ (hC.upd i o) (ha w.heap.size)
    | halt x w' => simp only [locUpon] at h2

theorem wpAny_of_headB {n g : Nat} {L : Array Bool → Made → Act → Prop} {Q' : Exit → Act → World → Prop} (hL : ∀ listed Γ a w, Cls w0 Γ w → L listed Γ a → wpAny P md ops Q' g listed a w) :
    ∀ (f : Nat) (listed : Array Bool) (Γ : Made) (a : Act) (w : World), Cls w0 Γ w → wpAnyB P md ops w0 n L f listed Γ a → wpAny P md ops Q' (f + g) listed a w
  | 0, listed, Γ, a, w, hC, h => by rw [Nat.zero_add]; exact hL _ _ _ _ hC (h ⟨w, hC⟩)
  | f + 1, listed, Γ, a, w, hC, h => by
    rw [show f + 1 + g = (f + g) + 1 by omega]
    have h := h ⟨w, hC⟩
    refine ⟨fun h0 => absurd h0 h.1, fun i hi => ?_⟩
    obtain ⟨o, ho⟩ := ops_ready hi
    obtain ⟨s, hs, ha⟩ := (h.2 i hi).2 o ho
    exact wp_of_holds hC ho (fun Γ' a' w' hC' h' => wpAny_of_headB hL f _ Γ' a' w' hC' h') hs ha

theorem waits_unready {listed : Array Bool} {i j : Nat} {oj : Oper} (hj : j ∈ Region.ready md ops listed) (hoj : ops[j]? = some oj) (hun : listed.getD i true = false) : ¬ waits md oj i := by
  rintro ⟨e, he, hb, hon⟩
  obtain ⟨_, o, ho, hall⟩ := mem_ready.1 hj
  have : o = oj := Option.some.inj (ho.symm.trans hoj)
  subst this
  have h1 := hall e he hb
  rw [hon, getD_both hun] at h1
  cases h1
theorem clsFor_upd {op : Oper} {Γ : Made} {i g : Nat} {o : Obj} (h : ¬ waits md op i) (w : World) : ClsFor w0 md op (Γ.upd i g o) w ↔ ClsFor w0 md op Γ w := by
  unfold ClsFor
  refine and_congr_right fun _ => forall_congr' fun j => forall_congr' fun g' => forall_congr' fun o' => ?_
  refine forall_congr' fun hw => ?_
  unfold Made.upd
  rw [if_neg (fun e => h (by rw [← e]; exact hw))]

/-- the outcomes of an operation, as states -/
theorem after_iff {i : Nat} {op : Oper} {K : Made → Act → Prop} {Γ : Made} {a : Act} {s : Spec} :
    After i op K Γ a s ↔ ∀ g, K (match s with | .quiet _ => Γ | .loc _ o => Γ.upd i g o) (a.put op.dst (match s with | .quiet v => v | .loc f _ => f.at g)) := by
  cases s with
  | quiet v => exact ⟨fun h _ => h, fun h => h 0⟩
  | loc f o => exact Iff.rfl

def sΓ (i : Nat) (s : Spec) (g : Nat) (Γ : Made) : Made := match s with | .quiet _ => Γ | .loc _ o => Γ.upd i g o
def sv (s : Spec) (g : Nat) : Value := match s with | .quiet v => v | .loc f _ => f.at g
theorem after_sv {i : Nat} {op : Oper} {K : Made → Act → Prop} {Γ : Made} {a : Act} {s : Spec} : After i op K Γ a s ↔ ∀ g, K (sΓ i s g Γ) (a.put op.dst (sv s g)) := by
  cases s with
  | quiet v => exact ⟨fun h _ => h, fun h => h 0⟩
  | loc f o => exact Iff.rfl
theorem clsFor_sΓ {op : Oper} {Γ : Made} {i g : Nat} {s : Spec} (h : ¬ waits md op i) (w : World) : ClsFor w0 md op (sΓ i s g Γ) w ↔ ClsFor w0 md op Γ w := by
  cases s with
  | quiet v => exact Iff.rfl
  | loc f o => exact clsFor_upd h w
theorem NE_of_sΓ {Γ : Made} {i g : Nat} {s : Spec} (hi : Γ i = none) (h : NE w0 (sΓ i s g Γ)) : NE w0 Γ := by
  cases s with
  | quiet v => exact h
  | loc f o => obtain ⟨w, hw⟩ := h; exact ⟨w, hw.of_upd hi⟩
theorem NE_sΓ {Γ : Made} {i : Nat} {s : Spec} (h : NE w0 Γ) : ∃ g, NE w0 (sΓ i s g Γ) := by
  obtain ⟨w, hw⟩ := h
  cases s with
  | quiet v => exact ⟨0, w, hw⟩
  | loc f o => exact ⟨w.heap.size, _, hw.upd i o⟩
theorem sΓ_comm {Γ : Made} {i j g g' : Nat} {s s' : Spec} (h : i ≠ j) : sΓ j s' g' (sΓ i s g Γ) = sΓ i s g (sΓ j s' g' Γ) := by
  cases s <;> cases s' <;> try rfl
  exact Made.upd_comm Γ h _ _ _ _
theorem sΓ_other {Γ : Made} {i k g : Nat} {s : Spec} (h : k ≠ i) : sΓ i s g Γ k = Γ k := by
  cases s with
  | quiet v => rfl
  | loc f o => unfold sΓ Made.upd; simp [h]

theorem wpAnyB_first {n i : Nat} {oi : Oper} {s : Spec} {L : Array Bool → Made → Act → Prop} (hi : ops[i]? = some oi) (hsel : ∀ (j : Nat) (o : Oper) cs b, ops[j]? = some o → o.op ≠ .select cs b)
    (hs : Region.sinkB md ops n = true) (hc : Region.chainB md ops n = true) (hn : n < ops.size) (hin : i < n)
    (hdone : ∀ listed Γ a, L listed Γ a → ∀ j ∈ Region.ready md ops listed, n ≤ j) :
    ∀ (f : Nat) (listed : Array Bool) (Γ : Made) (a : Act), HeadInv md ops n listed → (∀ k, listed.getD k true = false → Γ k = none) →
      (∀ j oj, ops[j]? = some oj → j ≠ i → listed.getD j true = false → (∀ e ∈ oj.after, Region.binds md e = true → e.on ≠ i) → oi.apart ops oj = true) →
      i ∈ Region.ready md ops listed → Holds P ops w0 md oi a Γ s →
      After i oi (wpAnyB P md ops w0 n L f (listed.setIfInBounds i true)) Γ a s → wpAnyB P md ops w0 n L (f + 1) listed Γ a := by
  intro f
  induction f with
  | zero =>
    intro listed Γ a inv hΓ _ hr hy H ne
    have hun := (mem_ready.1 hr).1
    refine ⟨fun h => (by rw [h] at hr; cases hr), fun j hj => ?_⟩
    have hjn : j < n := by
      rcases Nat.lt_or_ge j n with h | h
      · exact h
      · exact absurd hj (tail_waits hs hc hn inv _ i rfl hin hun j h)
    refine ⟨hjn, ?_⟩
    by_cases hji : j = i
    · subst hji; exact fun o ho => by
        have : o = oi := Option.some.inj (ho.symm.trans hi)
        subst this
        exact ⟨s, hy, H⟩
    · obtain ⟨g, hg⟩ := NE_sΓ (i := i) (s := s) ne
      have := hdone _ _ _ ((after_sv.1 H g) hg) j (ready_mono hj hji)
      omega
  | succ f ih =>
    intro listed Γ a inv hΓ hfree hr hy H ne
    have hun := (mem_ready.1 hr).1
    refine ⟨fun h => (by rw [h] at hr; cases hr), fun j hj => ?_⟩
    have hjn : j < n := by
      rcases Nat.lt_or_ge j n with h | h
      · exact h
      · exact absurd hj (tail_waits hs hc hn inv _ i rfl hin hun j h)
    refine ⟨hjn, ?_⟩
    by_cases hji : j = i
    · subst hji; exact fun o ho => by
        have : o = oi := Option.some.inj (ho.symm.trans hi)
        subst this
        exact ⟨s, hy, H⟩
    · intro oj hoj
      have H := after_sv.1 H
      obtain ⟨hjun, oj', hoj', hall⟩ := mem_ready.1 hj
      have e1 : oj' = oj := Option.some.inj (hoj'.symm.trans hoj)
      subst e1
      have hjw : ¬ waits md oj' i := waits_unready hj hoj hun
      have hiw : ¬ waits md oi j := waits_unready hr hi hjun
      have hap := hfree j oj' hoj hji hjun (fun e he hb heq => hjw ⟨e, he, hb, heq⟩)
      obtain ⟨p1, p2, p3⟩ := Oper.apart_spec hap
      have hsj := fun cs b => hsel j oj' cs b hoj
      have hsi := fun cs b => hsel i oi cs b hi
      -- j's outcome, whatever block i is given
      have each : ∀ g, NE w0 (sΓ i s g Γ) → ∃ t, Holds P ops w0 md oj' a Γ t ∧ ∀ g', wpAnyB P md ops w0 n L f ((listed.setIfInBounds i true).setIfInBounds j true) (sΓ j t g' (sΓ i s g Γ)) ((a.put oi.dst (sv s g)).put oj'.dst (sv t g')) := by
        intro g hg
        obtain ⟨t, h1, h2⟩ := ((H g) hg).2 j (ready_mono hj hji) |>.2 oj' hoj
        exact ⟨t, h1.same (execOp_put oj' hsj a oi.dst _ p1).symm (wanted_put oj' a oi.dst _ p1).symm (fun w hw => (clsFor_sΓ hjw w).2 hw), after_sv.1 h2⟩
      obtain ⟨g0, hg0⟩ := NE_sΓ (i := i) (s := s) ne
      obtain ⟨t, ht, ht2⟩ := each g0 hg0
      refine ⟨t, ht, after_sv.2 fun g' => ?_⟩
      have hfree' : ∀ k ok, ops[k]? = some ok → k ≠ i → (listed.setIfInBounds j true).getD k true = false →
          (∀ e ∈ ok.after, Region.binds md e = true → e.on ≠ i) → oi.apart ops ok = true := fun k ok hk hki hun hno => by
        refine hfree k ok hk hki ?_ hno
        by_cases hjk : j = k
        · subst hjk; exact hjun
        · rw [getD_set_ne true hjk] at hun; exact hun
      have hjs : j < listed.size := by
        rcases Nat.lt_or_ge j listed.size with h | h
        · exact h
        · rw [inv.size] at h; have := (Array.getElem?_eq_some_iff.1 hoj).1; omega
      have hΓ' : ∀ k, (listed.setIfInBounds j true).getD k true = false → sΓ j t g' Γ k = none := fun k hk => by
        by_cases hjk : j = k
        · subst hjk; simp [hjs] at hk
        · rw [getD_set_ne true hjk] at hk
          rw [sΓ_other (Ne.symm hjk)]; exact hΓ k hk
      refine ih (listed.setIfInBounds j true) (sΓ j t g' Γ) (a.put oj'.dst (sv t g')) (inv.set hj hjn) hΓ' hfree' (ready_mono hr (Ne.symm hji))
        (hy.same (execOp_put oi hsi a oj'.dst _ p3) (wanted_put oi a oj'.dst _ p3) (fun w hw => (clsFor_sΓ hiw w).1 hw)) (after_sv.2 fun g => ?_)
      -- only blocks that can be there matter
      have hgo : NE w0 (sΓ i s g (sΓ j t g' Γ)) → wpAnyB P md ops w0 n L f ((listed.setIfInBounds j true).setIfInBounds i true) (sΓ i s g (sΓ j t g' Γ)) ((a.put oj'.dst (sv t g')).put oi.dst (sv s g)) := by
        intro hne
        rw [← sΓ_comm (Ne.symm hji)] at hne ⊢
        have hne' : NE w0 (sΓ i s g Γ) := NE_of_sΓ (by rw [sΓ_other hji]; exact hΓ j hjun) hne
        obtain ⟨t', ht', ht2'⟩ := each g hne'
        obtain ⟨w, hw⟩ := ne
        have := Holds.unique hw.for ht' ht
        subst this
        have h3 := ht2' g'
        rw [Array.setIfInBounds_comm _ _ hji, ← Act.put_comm a (sv s g) (sv t' g') p2]
        exact h3
      cases f with
      | zero => exact fun hne => hgo hne hne
      | succ f => exact fun hne => hgo hne hne

/-- the walk of the first n operations, in the order of the text -/
def wpLow (P : Program) (ops : Array Oper) (w0 : World) (Lq : Made → Act → Prop) : Nat → List Oper → Made → Act → Prop
  | _, [], Γ, a => Lq Γ a
  | k, o :: rest, Γ, a => ∃ s, Holds P ops w0 .any o a Γ s ∧ After k o (wpLow P ops w0 Lq (k + 1) rest) Γ a s

theorem wpAnyB_lex {n g : Nat} {Lq : Made → Act → Prop} (hsel : Region.noSelect ops = true) (hs : Region.sinkB .any ops n = true) (hc : Region.chainB .any ops n = true) (hn : n < ops.size) :
    ∀ (l : List Oper) (k : Nat) (listed : Array Bool) (Γ : Made) (a : Act), (∀ j, j < l.length → l[j]? = ops[k + j]?) → k + l.length = n → HeadInv .any ops n listed → (∀ k, listed.getD k true = false → Γ k = none) →
    Region.lexHead .any ops g l.length k listed = true → wpLow P ops w0 Lq k l Γ a →
    wpAnyB P .any ops w0 n (fun listed' Γ' a' => Region.seqB .any ops g n listed' = true ∧ Lq Γ' a') l.length listed Γ a
  | [], k, listed, Γ, a, _, hk, _, _, hB, h => by
    have : k = n := by simpa using hk
    subst this
    exact fun _ => ⟨by simpa [Region.lexHead] using hB, h⟩
  | o :: l, k, listed, Γ, a, hl, hk, inv, hΓ, hB, h => by
    have h0 : ops[k]? = some o := by simpa using (hl 0 (by simp)).symm
    simp only [List.length_cons, Region.lexHead, Bool.and_eq_true] at hB
    obtain ⟨⟨hr, hf⟩, hB'⟩ := hB
    have hkn : k < n := by simp only [List.length_cons] at hk; omega
    have hr' : k ∈ Region.ready .any ops listed := by simpa using hr
    obtain ⟨s, hy, hK⟩ := h
    refine wpAnyB_first h0 (Region.noSelect_spec hsel) hs hc hn hkn (fun listed' Γ' a' hL => seqB_ready hL.1) l.length listed Γ a inv hΓ (Region.free_spec h0 hf) hr' hy (after_sv.2 fun g' => ?_)
    have hks : k < listed.size := by
      rcases Nat.lt_or_ge k listed.size with h | h
      · exact h
      · rw [inv.size] at h; have := (Array.getElem?_eq_some_iff.1 h0).1; omega
    refine wpAnyB_lex hsel hs hc hn l (k + 1) _ _ _ (fun j hj => by have := hl (j + 1) (by simp; omega); simpa [Nat.add_assoc, Nat.add_comm 1 j] using this) (by simp only [List.length_cons] at hk; omega) (inv.set hr' hkn) (fun m hm => ?_) hB' (after_sv.1 hK g')
    by_cases hkm : k = m
    · subst hkm; simp [hks] at hm
    · rw [getD_set_ne true hkm] at hm
      rw [sΓ_other (Ne.symm hkm)]; exact hΓ m hm

abbrev Grew (w w' : World) : Prop := Below w.heap.size w w'
def opUpon (P : Program) (w : World) (v : Value) : Result Next → Prop
  | .ok (.value u) w' => w' = w ∧ u = v
  | .ok .skip w' => w' = w ∧ v = undef
  | .ok (.enter f args) w' => w' = w ∧ P.inits.idxOf? f = none ∧ Calls P f args w (fun e w'' => e = .returned v ∧ Grew w w'')
  | _ => False
/-- an operation that makes nothing: one value in every world that may be there -/
def opLow (P : Program) (o : Oper) (a : Act) (w0 : World) (K : Act → Prop) : Prop :=
  ∃ v, (∀ p : Regrown, opUpon P (grow (redrawn w0 p.d) p.os) v ((execOp a.eval o).run P (grow (redrawn w0 p.d) p.os))) ∧ K (a.put o.dst v)
theorem low_nil {Lq : Made → Act → Prop} {k : Nat} {Γ : Made} {a : Act} (h : Lq Γ a) : wpLow P ops w0 Lq k [] Γ a := h
theorem low_step {Lq : Made → Act → Prop} {k : Nat} {o : Oper} {rest : List Oper} {Γ : Made} {a : Act}
    (h : ∀ K : Act → Prop, (∀ a, wpLow P ops w0 Lq (k + 1) rest Γ a → K a) → if Region.wanted o (yielded ops a.tmps) then opLow P o a w0 K else K (a.put o.dst undef)) : wpLow P ops w0 Lq k (o :: rest) Γ a := by
  have h := h (wpLow P ops w0 Lq (k + 1) rest Γ) (fun _ h => h)
  by_cases hw : Region.wanted o (yielded ops a.tmps) = true
  · rw [if_pos hw] at h
    obtain ⟨v, h1, h2⟩ := h
    refine ⟨.quiet v, .inl ⟨hw, fun w hC => ?_⟩, h2⟩
    obtain ⟨p, rfl⟩ := regrown_of_below hC.1
    have := h1 p
    generalize (execOp a.eval o).run P (grow (redrawn w0 p.d) p.os) = r at *
    cases r with
    | ok n w' => cases n <;> exact this
    | halt x w' => exact this
  · rw [if_neg hw] at h
    exact ⟨.quiet undef, .inr ⟨by simpa using hw, rfl⟩, h⟩
/-- a block made among the others -/
theorem low_alloc {Lq : Made → Act → Prop} {k : Nat} {o : Oper} {rest : List Oper} {Γ : Made} {a : Act} (f : Form) (obj : Obj) (hw : Region.wanted o (yielded ops a.tmps) = true)
    (hr : ∀ w, (execOp a.eval o).run P w = .ok (.value (f.at w.heap.size)) (w.alloc obj)) (h : ∀ g, wpLow P ops w0 Lq (k + 1) rest (Γ.upd k g obj) (a.put o.dst (f.at g))) : wpLow P ops w0 Lq k (o :: rest) Γ a :=
  ⟨.loc f obj, ⟨hw, fun w _ => by rw [hr w]; exact ⟨rfl, rfl⟩⟩, h⟩
theorem low_new {Lq : Made → Act → Prop} {k : Nat} {o : Oper} {rest : List Oper} {Γ : Made} {a : Act} (obj : Obj) (hw : Region.wanted o (yielded ops a.tmps) = true)
    (hr : ∀ w, (execOp a.eval o).run P w = .ok (.value (.pointer (some ⟨w.heap.size, 0, none⟩))) (w.alloc obj)) (h : ∀ g : Nat, wpLow P ops w0 Lq (k + 1) rest (Γ.upd k g obj) (a.put o.dst (.pointer (some ⟨g, 0, none⟩)))) : wpLow P ops w0 Lq k (o :: rest) Γ a :=
  low_alloc .ptr obj hw hr h
theorem low_slice {Lq : Made → Act → Prop} {k : Nat} {o : Oper} {rest : List Oper} {Γ : Made} {a : Act} (n c : Nat) (obj : Obj) (hw : Region.wanted o (yielded ops a.tmps) = true)
    (hr : ∀ w, (execOp a.eval o).run P w = .ok (.value (.slice (some ⟨w.heap.size, 0, none⟩) n c)) (w.alloc obj)) (h : ∀ g : Nat, wpLow P ops w0 Lq (k + 1) rest (Γ.upd k g obj) (a.put o.dst (.slice (some ⟨g, 0, none⟩) n c))) : wpLow P ops w0 Lq k (o :: rest) Γ a :=
  low_alloc (.slice n c) obj hw hr h
/-- a call that reads a block that the region has made -/
theorem low_call {Lq : Made → Act → Prop} {k : Nat} {o : Oper} {rest : List Oper} {Γ : Made} {a : Act} {f : FuncId} {args : Array Value} (i g : Nat) (obj : Obj) (v : Value) (hw : Region.wanted o (yielded ops a.tmps) = true)
    (hr : ∀ w, (execOp a.eval o).run P w = .ok (.enter f args) w) (hi : P.inits.idxOf? f = none) (hwt : waits .any o i) (hΓ : Γ i = some (g, obj))
    (hc : ∀ w, Below w0.heap.size w0 w → w0.heap.size ≤ g → w.heap[g]? = some obj → Calls P f args w (fun e w'' => e = .returned v ∧ Below w.heap.size w w''))
    (h : wpLow P ops w0 Lq (k + 1) rest Γ (a.put o.dst v)) : wpLow P ops w0 Lq k (o :: rest) Γ a :=
  ⟨.quiet v, .inl ⟨hw, fun w hC => by rw [hr w]; exact ⟨rfl, hi, hc w hC.1 (hC.2 i g obj hwt hΓ).1 (hC.2 i g obj hwt hΓ).2⟩⟩, h⟩

/-- **One walk serves every order.** The first n operations only read, compute, call (contracts that end in 'Below') or make blocks; the rest comes last, in one order. -/
theorem wp_region_low {id : Nat} {Q : Exit → Act → World → Prop} {a : Act} {w : World} {l : List Oper} (n : Nat) (hm : P.follows .mixedOrders = true) (hB : Region.lexTailB .any l.toArray n = true)
    (h : wpLow P l.toArray w (fun Γ a' => ∀ w', Cls w Γ w' → wpList P l.toArray Q (l.drop n) a' w') 0 (l.take n) (fun _ => none) a) : (Code.region id l.toArray true).wp P Q a w := by
  simp only [Region.lexTailB, Bool.and_eq_true, decide_eq_true_eq] at hB
  obtain ⟨⟨⟨⟨hsel, hn⟩, hs⟩, hc⟩, hlex⟩ := hB
  have hn' : n < l.length := by simpa using hn
  have htl : (l.take n).length = n := by simp; omega
  have hdl : (l.drop n).length = l.toArray.size - n := by simp
  have inv0 : HeadInv .any l.toArray n (Array.replicate l.toArray.size false) :=
    ⟨by simp, fun j oj _ hl => (by rw [getD_replicate_false] at hl; cases hl), fun t _ ht => getD_in (by simpa using ht) (getD_replicate_false _ _)⟩
  have H := wpAnyB_lex (g := l.toArray.size - n) hsel hs hc hn (l.take n) 0 _ (fun _ => none) a (fun j hj => by
    have hj' : j < n := by rw [htl] at hj; exact hj
    simp [hj']) (by simpa using htl) inv0 (fun _ _ => rfl) (by rw [htl]; exact hlex) h
  refine wp_region_any hm ?_
  have := wpAny_of_headB (md := .any) (n := n) (ops := l.toArray) (w0 := w) (L := fun listed' Γ' a' => Region.seqB .any l.toArray (l.toArray.size - n) n listed' = true ∧ ∀ w', Cls w Γ' w' → wpList P l.toArray Q (l.drop n) a' w') (Q' := Q) (g := l.toArray.size - n) (fun listed Γ a' w' hC hL => by
    have := wpAny_of_seq (md := .any) (Q' := Q) (l.drop n) n listed a' w' (fun j => by simp [List.getElem?_drop]) (by rw [hdl]; exact hL.1) (hL.2 w' hC)
    rwa [hdl] at this) _ _ (fun _ => none) _ { w with drawn := w.drawn + 1 } ⟨⟨rfl, rfl, rfl, Nat.le_refl _, fun _ _ => rfl⟩, fun i g o hi => (by cases hi), fun i j g o o' hi => (by cases hi)⟩ H
  rw [htl, show n + (l.toArray.size - n) = l.toArray.size by omega] at this
  exact this
end
end Go.Proofs.YtghfggfgndgkjaaGreatDoor
