/- The one walk of a region, once more (XRegion), with calls whose results are places in memory: of these a post is said, function by function. -/
import Derived.Test.YtghfggfgndgkjaaGreatDoorRegion
import Derived.Test.YtghfggfgndgkjaaGreatDoorBlk
import Derived.Below
import Derived.Barred
import Derived.Lib.QuietBelow
set_option linter.unusedVariables false
set_option linter.unusedSimpArgs false
namespace Go.Proofs.YtghfggfgndgkjaaGreatDoor
open Go Go.RowKit Go.Sort

/-- what is known behind an operation: a block that it made, a fact that later blocks do not turn -/
structure Item where
  blk : Option Nat
  phi : World → Prop
def Mem := Nat → Option Item
def Mem.upd (Γ : Mem) (i : Nat) (x : Item) : Mem := fun j => if j = i then some x else Γ j
theorem Mem.upd_comm (Γ : Mem) {i j : Nat} (h : i ≠ j) (x y : Item) : (Γ.upd i x).upd j y = (Γ.upd j y).upd i x := by
  funext k
  unfold Mem.upd
  by_cases h1 : k = j
  · subst h1; rw [if_pos rfl, if_neg (Ne.symm h), if_pos rfl]
  · rw [if_neg h1]
    by_cases h2 : k = i
    · rw [if_pos h2, if_pos h2]
    · rw [if_neg h2, if_neg h2, if_neg h1]
/-- the posts of the functions whose results are places; none: the result is one value -/
def Posts := FuncId → Option (Array Value → Value → World → World → Prop)

section
variable {P : Program} {ops : Array Oper} {md : Region.Mode} {w0 : World} {T : Posts}

structure Cls2 (w0 : World) (Γ : Mem) (w : World) : Prop where
  below : Below w0.heap.size w0 w
  made : ∀ i x, Γ i = some x → x.phi w
  keeps : ∀ i x, Γ i = some x → ∀ u u' : World, x.phi u → Below u.heap.size u u' → x.phi u'
  lies : ∀ i x g, Γ i = some x → x.blk = some g → g < w.heap.size
  apart : ∀ i j x y g, Γ i = some x → Γ j = some y → x.blk = some g → y.blk = some g → i = j
def ClsFor2 (w0 : World) (md : Region.Mode) (op : Oper) (Γ : Mem) (w : World) : Prop := Below w0.heap.size w0 w ∧ ∀ i x, waits md op i → Γ i = some x → x.phi w
theorem Cls2.for {op : Oper} {Γ : Mem} {w : World} (h : Cls2 w0 Γ w) : ClsFor2 w0 md op Γ w := ⟨h.1, fun i x _ => h.made i x⟩
theorem Cls2.later {Γ : Mem} {w w' : World} (h : Cls2 w0 Γ w) (hb : Below w.heap.size w w') : Cls2 w0 Γ w' :=
  ⟨h.1.trans (hb.mono h.1.size), fun i x hi => h.keeps i x hi w w' (h.made i x hi) hb, h.keeps, fun i x g hi hg => Nat.lt_of_lt_of_le (h.lies i x g hi hg) hb.size, h.apart⟩

def quietUpon2 (P : Program) (T : Posts) (w : World) (v : Value) : Result Next → Prop
  | .ok (.value u) w' => w' = w ∧ u = v
  | .ok .skip w' => w' = w ∧ v = undef
  | .ok (.enter f args) w' => w' = w ∧ T f = none ∧ P.inits.idxOf? f = none ∧ Calls P f args w (fun e w'' => e = .returned v ∧ Below w.heap.size w w'')
  | _ => False
def callUpon (P : Program) (T : Posts) (w : World) (f : FuncId) (args : Array Value) : Result Next → Prop
  | .ok (.enter f' args') w' => w' = w ∧ f' = f ∧ args' = args ∧ ∃ A, T f = some A ∧ Calls P f args w (fun e w'' => ∃ v, e = .returned v ∧ A args v w w'' ∧ Below w.heap.size w w'')
  | _ => False

inductive Spec2 where
  | quiet (v : Value)
  | loc (f : Form) (o : Obj)
  | call (f : FuncId) (args : Array Value)

def Holds2 (P : Program) (T : Posts) (ops : Array Oper) (w0 : World) (md : Region.Mode) (op : Oper) (a : Act) (Γ : Mem) : Spec2 → Prop
  | .quiet v => (Region.wanted op (yielded ops a.tmps) = true ∧ ∀ w, ClsFor2 w0 md op Γ w → quietUpon2 P T w v ((execOp a.eval op).run P w)) ∨ (Region.wanted op (yielded ops a.tmps) = false ∧ v = undef)
  | .loc f o => Region.wanted op (yielded ops a.tmps) = true ∧ ∀ w, ClsFor2 w0 md op Γ w → locUpon w f o ((execOp a.eval op).run P w)
  | .call f args => Region.wanted op (yielded ops a.tmps) = true ∧ ∀ w, ClsFor2 w0 md op Γ w → callUpon P T w f args ((execOp a.eval op).run P w)
def locItem (w0 : World) (g : Nat) (o : Obj) : Item := ⟨some g, fun w => w0.heap.size ≤ g ∧ w.heap[g]? = some o⟩
def callItem (A : Array Value → Value → World → World → Prop) (args : Array Value) (v : Value) : Item := ⟨none, fun w => ∃ w1 w2, A args v w1 w2 ∧ Below w1.heap.size w1 w2 ∧ Below w2.heap.size w2 w⟩
/-- what comes of it: a value, and perhaps something that is known -/
def Out (T : Posts) (w0 : World) : Spec2 → Value → Option Item → Prop
  | .quiet u, v, it => v = u ∧ it = none
  | .loc f o, v, it => ∃ g, v = f.at g ∧ it = some (locItem w0 g o)
  | .call f args, v, it => ∃ A, T f = some A ∧ (∃ w1 w2, A args v w1 w2) ∧ it = some (callItem A args v)
def sM (i : Nat) (it : Option Item) (Γ : Mem) : Mem := match it with | none => Γ | some x => Γ.upd i x
def After2 (T : Posts) (w0 : World) (i : Nat) (op : Oper) (K : Mem → Act → Prop) (Γ : Mem) (a : Act) (s : Spec2) : Prop := ∀ v it, Out T w0 s v it → K (sM i it Γ) (a.put op.dst v)

theorem Holds2.same {op : Oper} {a a' : Act} {Γ Γ' : Mem} {s : Spec2} (h : Holds2 P T ops w0 md op a Γ s) (he : execOp a'.eval op = execOp a.eval op)
    (hw : Region.wanted op (yielded ops a'.tmps) = Region.wanted op (yielded ops a.tmps)) (hc : ∀ w, ClsFor2 w0 md op Γ' w → ClsFor2 w0 md op Γ w) : Holds2 P T ops w0 md op a' Γ' s := by
  cases s with
  | quiet v =>
    unfold Holds2 at *
    rw [he, hw]
    exact h.imp (fun ⟨h1, h2⟩ => ⟨h1, fun w hw => h2 w (hc w hw)⟩) id
  | loc f o =>
    unfold Holds2 at *
    rw [he, hw]
    exact ⟨h.1, fun w hw => h.2 w (hc w hw)⟩
  | call f args =>
    unfold Holds2 at *
    rw [he, hw]
    exact ⟨h.1, fun w hw => h.2 w (hc w hw)⟩

theorem Holds2.unique {op : Oper} {a : Act} {Γ : Mem} {s s' : Spec2} {w : World} (hw : ClsFor2 w0 md op Γ w) (h : Holds2 P T ops w0 md op a Γ s) (h' : Holds2 P T ops w0 md op a Γ s') : s = s' := by
  have off : ∀ (s : Spec2), Holds2 P T ops w0 md op a Γ s → Region.wanted op (yielded ops a.tmps) = false → s = .quiet undef := fun s h hf => by
    cases s with
    | quiet v => rcases h with ⟨h1, _⟩ | ⟨_, h2⟩
                 · rw [hf] at h1; cases h1
                 · rw [h2]
    | loc f o => have := h.1; rw [hf] at this; cases this
    | call f o => have := h.1; rw [hf] at this; cases this
  by_cases hf : Region.wanted op (yielded ops a.tmps) = false
  · rw [off s h hf, off s' h' hf]
  · have on : ∀ v, Holds2 P T ops w0 md op a Γ (.quiet v) → quietUpon2 P T w v ((execOp a.eval op).run P w) := fun v h => by
      rcases h with ⟨_, h2⟩ | ⟨h1, _⟩
      · exact h2 w hw
      · exact absurd h1 hf
    cases s with
    | quiet v =>
      have h2 := on v h
      cases s' with
      | quiet v' =>
        have h4 := on v' h'
        generalize (execOp a.eval op).run P w = r at *
        cases r with
        | ok n w' =>
          cases n <;> simp only [quietUpon2] at h2 h4
          case value u => rw [← h2.2, ← h4.2]
          case skip => rw [h2.2, h4.2]
          case enter f args => rw [calls_agree h2.2.2.2 h4.2.2.2 h2.2.2.1]
        | halt x w' => simp only [quietUpon2] at h2
      | loc f o =>
        have h4 := h'.2 w hw
        generalize (execOp a.eval op).run P w = r at *
        cases r with
        | ok n w' =>
          cases n <;> simp only [quietUpon2, locUpon] at h2 h4
          case value u => rw [h2.1] at h4; exact absurd h4.2.symm (alloc_ne _ _)
        | halt x w' => simp only [quietUpon2] at h2
      | call f args =>
        have h4 := h'.2 w hw
        generalize (execOp a.eval op).run P w = r at *
        cases r with
        | ok n w' =>
          cases n <;> simp only [quietUpon2, callUpon] at h2 h4
          case enter f' args' =>
            obtain ⟨_, e, _, A, hA, _⟩ := h4
            rw [e, hA] at h2; cases h2.2.1
        | halt x w' => simp only [quietUpon2] at h2
    | loc f o =>
      have h2 := h.2 w hw
      cases s' with
      | quiet v' =>
        have h4 := on v' h'
        generalize (execOp a.eval op).run P w = r at *
        cases r with
        | ok n w' =>
          cases n <;> simp only [quietUpon2, locUpon] at h2 h4
          case value u => rw [h4.1] at h2; exact absurd h2.2.symm (alloc_ne _ _)
        | halt x w' => simp only [locUpon] at h2
      | loc f' o' =>
        have h4 := h'.2 w hw
        generalize (execOp a.eval op).run P w = r at *
        cases r with
        | ok n w' =>
          cases n <;> simp only [locUpon] at h2 h4
          case value u =>
            have e1 := Form.at_inj (h2.1.symm.trans h4.1)
            have e2 := alloc_inj _ (h2.2.symm.trans h4.2)
            rw [e1, e2]
        | halt x w' => simp only [locUpon] at h2
      | call f' args =>
        have h4 := h'.2 w hw
        generalize (execOp a.eval op).run P w = r at *
        cases r with
        | ok n w' => cases n <;> simp only [locUpon, callUpon] at h2 h4
        | halt x w' => simp only [locUpon] at h2
    | call f args =>
      have h2 := h.2 w hw
      cases s' with
      | quiet v' =>
        have h4 := on v' h'
        generalize (execOp a.eval op).run P w = r at *
        cases r with
        | ok n w' =>
          cases n <;> simp only [quietUpon2, callUpon] at h2 h4
          case enter f' args' =>
            obtain ⟨_, e, _, A, hA, _⟩ := h2
            rw [e, hA] at h4; cases h4.2.1
        | halt x w' => simp only [callUpon] at h2
      | loc f' o' =>
        have h4 := h'.2 w hw
        generalize (execOp a.eval op).run P w = r at *
        cases r with
        | ok n w' => cases n <;> simp only [locUpon, callUpon] at h2 h4
        | halt x w' => simp only [callUpon] at h2
      | call f' args' =>
        have h4 := h'.2 w hw
        generalize (execOp a.eval op).run P w = r at *
        cases r with
        | ok n w' =>
          cases n <;> simp only [callUpon] at h2 h4
          case enter f1 args1 =>
            rw [← h2.2.1, ← h2.2.2.1, ← h4.2.1, ← h4.2.2.1]
        | halt x w' => simp only [callUpon] at h2

def sOp2 (P : Program) (T : Posts) (ops : Array Oper) (w0 : World) (md : Region.Mode) (i : Nat) (K : Mem → Act → Prop) (Γ : Mem) (a : Act) : Prop :=
  ∀ o, ops[i]? = some o → ∃ s, Holds2 P T ops w0 md o a Γ s ∧ After2 T w0 i o K Γ a s
def NE2 (w0 : World) (Γ : Mem) : Prop := ∃ w, Cls2 w0 Γ w
def wpAnyB2 (P : Program) (T : Posts) (md : Region.Mode) (ops : Array Oper) (w0 : World) (n : Nat) (L : Array Bool → Mem → Act → Prop) : Nat → Array Bool → Mem → Act → Prop
  | 0, listed, Γ, a => NE2 w0 Γ → L listed Γ a
  | f + 1, listed, Γ, a => NE2 w0 Γ →
    Region.ready md ops listed ≠ [] ∧ ∀ i ∈ Region.ready md ops listed, i < n ∧ sOp2 P T ops w0 md i (wpAnyB2 P T md ops w0 n L f (listed.setIfInBounds i true)) Γ a

theorem Cls2.upd_loc {Γ : Mem} {w : World} (h : Cls2 w0 Γ w) (i : Nat) (o : Obj) : Cls2 w0 (Γ.upd i (locItem w0 w.heap.size o)) (w.alloc o) := by
  have hb : Below w.heap.size w (w.alloc o) := (Below.refl _ _).alloc (Nat.le_refl _) o
  have h' := h.later hb
  refine ⟨h'.1, fun j x hj => ?_, fun j x hj u u' hx hb' => ?_, fun j x g hj hg => ?_, fun j k x y g hj hk hx hy => ?_⟩
  · unfold Mem.upd at hj
    split at hj
    · cases hj
      refine ⟨h.1.size, ?_⟩
      show (w.heap.push o)[w.heap.size]? = some o
      simp
    · exact h'.made j x hj
  · unfold Mem.upd at hj
    split at hj
    · cases hj
      refine ⟨hx.1, ?_⟩
      rw [hb'.block _ (Array.getElem?_eq_some_iff.1 hx.2).1]; exact hx.2
    · exact h.keeps j x hj u u' hx hb'
  · unfold Mem.upd at hj
    split at hj
    · cases hj
      cases hg
      simp
    · exact h'.lies j x g hj hg
  · unfold Mem.upd at hj hk
    by_cases e1 : j = i <;> by_cases e2 : k = i
    · rw [e1, e2]
    · rw [if_pos e1] at hj
      rw [if_neg e2] at hk
      cases hj
      cases hx
      exact absurd (h.lies k y _ hk hy) (Nat.lt_irrefl _)
    · rw [if_neg e1] at hj
      rw [if_pos e2] at hk
      cases hk
      cases hy
      exact absurd (h.lies j x _ hj hx) (Nat.lt_irrefl _)
    · rw [if_neg e1] at hj
      rw [if_neg e2] at hk
      exact h.apart j k x y g hj hk hx hy
theorem Cls2.upd_call {Γ : Mem} {w w' : World} (h : Cls2 w0 Γ w) (i : Nat) {A : Array Value → Value → World → World → Prop} {args : Array Value} {v : Value} (hA : A args v w w') (hb : Below w.heap.size w w') : Cls2 w0 (Γ.upd i (callItem A args v)) w' := by
  have h' := h.later hb
  refine ⟨h'.1, fun j x hj => ?_, fun j x hj u u' hx hb' => ?_, fun j x g hj hg => ?_, fun j k x y g hj hk hx hy => ?_⟩
  · unfold Mem.upd at hj
    split at hj
    · cases hj
      exact ⟨w, w', hA, hb, Below.refl _ _⟩
    · exact h'.made j x hj
  · unfold Mem.upd at hj
    split at hj
    · cases hj
      obtain ⟨w1, w2, h1, h2, h3⟩ := hx
      exact ⟨w1, w2, h1, h2, h3.trans (hb'.mono h3.size)⟩
    · exact h.keeps j x hj u u' hx hb'
  · unfold Mem.upd at hj
    split at hj
    · cases hj; cases hg
    · exact h'.lies j x g hj hg
  · unfold Mem.upd at hj hk
    by_cases e1 : j = i
    · rw [if_pos e1] at hj; cases hj; cases hx
    · by_cases e2 : k = i
      · rw [if_pos e2] at hk; cases hk; cases hy
      · rw [if_neg e1] at hj
        rw [if_neg e2] at hk
        exact h.apart j k x y g hj hk hx hy
theorem Cls2.of_upd {Γ : Mem} {w : World} {i : Nat} {x : Item} (hi : Γ i = none) (h : Cls2 w0 (Γ.upd i x) w) : Cls2 w0 Γ w := by
  have e : ∀ j y, Γ j = some y → (Γ.upd i x) j = some y := fun j y hj => by
    unfold Mem.upd
    rw [if_neg (fun e => by rw [e, hi] at hj; cases hj)]; exact hj
  exact ⟨h.1, fun j y hj => h.made j y (e j y hj), fun j y hj => h.keeps j y (e j y hj), fun j y g hj => h.lies j y g (e j y hj), fun j k y z g hj hk => h.apart j k y z g (e _ _ hj) (e _ _ hk)⟩

theorem wp_of_holds2 {op : Oper} {i : Nat} {a : Act} {Γ : Mem} {s : Spec2} {K : Mem → Act → Prop} {K' : Act → World → Prop} {Q' : Exit → Act → World → Prop} {w : World} (hC : Cls2 w0 Γ w)
    (hi : ops[i]? = some op) (h : ∀ Γ' a' w', Cls2 w0 Γ' w' → K Γ' a' → K' a' w') (hh : Holds2 P T ops w0 md op a Γ s) (ha : After2 T w0 i op K Γ a s) : wpOp P ops Q' i K' a w := by
  unfold wpOp
  simp only [hi]
  cases s with
  | quiet v =>
    have ha : K Γ (a.put op.dst v) := ha v none ⟨rfl, rfl⟩
    rcases hh with ⟨h1, h2⟩ | ⟨h1, rfl⟩
    · rw [h1, if_pos rfl]
      refine .inl ?_
      have h2 := h2 w hC.for
      unfold Oper.wp
      generalize (execOp a.eval op).run P w = r at *
      cases r with
      | ok n w' =>
        cases n <;> simp only [quietUpon2] at h2 <;> simp only [Oper.upon]
        case value u => obtain ⟨rfl, rfl⟩ := h2; exact h _ _ _ hC ha
        case skip => obtain ⟨rfl, rfl⟩ := h2; exact h _ _ _ hC ha
        case enter f args =>
          obtain ⟨rfl, _, _, hc⟩ := h2
          exact hc.mono fun e w'' ⟨he, hb⟩ => by subst he; exact h _ _ _ (hC.later hb) ha
      | halt x w' => simp only [quietUpon2] at h2
    · rw [h1, if_neg (by decide)]
      exact h _ _ _ hC ha
  | loc f o =>
    rw [hh.1, if_pos rfl]
    refine .inl ?_
    have h2 := hh.2 w hC.for
    unfold Oper.wp
    generalize (execOp a.eval op).run P w = r at *
    cases r with
    | ok n w' =>
      cases n <;> simp only [locUpon] at h2 <;> simp only [Oper.upon]
      case value u => obtain ⟨rfl, rfl⟩ := h2; exact h _ _ _ (hC.upd_loc i o) (ha _ _ ⟨w.heap.size, rfl, rfl⟩)
    | halt x w' => simp only [locUpon] at h2
  | call f args =>
    rw [hh.1, if_pos rfl]
    refine .inl ?_
    have h2 := hh.2 w hC.for
    unfold Oper.wp
    generalize (execOp a.eval op).run P w = r at *
    cases r with
    | ok n w' =>
      cases n <;> simp only [callUpon] at h2 <;> simp only [Oper.upon]
      case enter f' args' =>
        obtain ⟨rfl, rfl, rfl, A, hA, hc⟩ := h2
        exact hc.mono fun e w'' ⟨v, he, hp, hb⟩ => by subst he; exact h _ _ _ (hC.upd_call i hp hb) (ha _ _ ⟨A, hA, ⟨_, _, hp⟩, rfl⟩)
    | halt x w' => simp only [callUpon] at h2

theorem wpAny_of_headB2 {n g : Nat} {L : Array Bool → Mem → Act → Prop} {Q' : Exit → Act → World → Prop} (hL : ∀ listed Γ a w, Cls2 w0 Γ w → L listed Γ a → wpAny P md ops Q' g listed a w) :
    ∀ (f : Nat) (listed : Array Bool) (Γ : Mem) (a : Act) (w : World), Cls2 w0 Γ w → wpAnyB2 P T md ops w0 n L f listed Γ a → wpAny P md ops Q' (f + g) listed a w
  | 0, listed, Γ, a, w, hC, h => by rw [Nat.zero_add]; exact hL _ _ _ _ hC (h ⟨w, hC⟩)
  | f + 1, listed, Γ, a, w, hC, h => by
    rw [show f + 1 + g = (f + g) + 1 by omega]
    have h := h ⟨w, hC⟩
    refine ⟨fun h0 => absurd h0 h.1, fun i hi => ?_⟩
    obtain ⟨o, ho⟩ := ops_ready hi
    obtain ⟨s, hs, ha⟩ := (h.2 i hi).2 o ho
    exact wp_of_holds2 hC ho (fun Γ' a' w' hC' h' => wpAny_of_headB2 hL f _ Γ' a' w' hC' h') hs ha

theorem clsFor_sM {op : Oper} {Γ : Mem} {i : Nat} {it : Option Item} (h : ¬ waits md op i) (w : World) : ClsFor2 w0 md op (sM i it Γ) w ↔ ClsFor2 w0 md op Γ w := by
  cases it with
  | none => exact Iff.rfl
  | some x =>
    unfold ClsFor2
    refine and_congr_right fun _ => forall_congr' fun j => forall_congr' fun y => forall_congr' fun hw => ?_
    show ((Γ.upd i x) j = some y → _) ↔ _
    unfold Mem.upd
    rw [if_neg (fun e => h (by rw [← e]; exact hw))]
theorem NE2_of_sM {Γ : Mem} {i : Nat} {it : Option Item} (hi : Γ i = none) (h : NE2 w0 (sM i it Γ)) : NE2 w0 Γ := by
  cases it with
  | none => exact h
  | some x => obtain ⟨w, hw⟩ := h; exact ⟨w, hw.of_upd hi⟩
theorem NE2_sM {Γ : Mem} {i : Nat} {op : Oper} {a : Act} {s : Spec2} (hs : Holds2 P T ops w0 md op a Γ s) (h : NE2 w0 Γ) : ∃ v it, Out T w0 s v it ∧ NE2 w0 (sM i it Γ) := by
  obtain ⟨w, hw⟩ := h
  cases s with
  | quiet v => exact ⟨v, none, ⟨rfl, rfl⟩, w, hw⟩
  | loc f o => exact ⟨_, _, ⟨w.heap.size, rfl, rfl⟩, _, hw.upd_loc i o⟩
  | call f args =>
    have h2 := hs.2 w hw.for
    generalize (execOp a.eval op).run P w = r at *
    cases r with
    | ok n w' =>
      cases n <;> simp only [callUpon] at h2
      case enter f' args' =>
        obtain ⟨rfl, rfl, rfl, A, hA, hc⟩ := h2
        obtain ⟨e, w'', fr, ⟨v, he, hp, hb⟩, _⟩ := hc []
        exact ⟨v, _, ⟨A, hA, ⟨_, _, hp⟩, rfl⟩, w'', hw.upd_call i hp hb⟩
    | halt x w' => simp only [callUpon] at h2
theorem sM_comm {Γ : Mem} {i j : Nat} {it jt : Option Item} (h : i ≠ j) : sM j jt (sM i it Γ) = sM i it (sM j jt Γ) := by
  cases it <;> cases jt <;> try rfl
  exact Mem.upd_comm Γ h _ _
theorem sM_other {Γ : Mem} {i k : Nat} {it : Option Item} (h : k ≠ i) : sM i it Γ k = Γ k := by
  cases it with
  | none => rfl
  | some x => show (Γ.upd i x) k = _; unfold Mem.upd; simp [h]

theorem wpAnyB2_first {n i : Nat} {oi : Oper} {s : Spec2} {L : Array Bool → Mem → Act → Prop} (hi : ops[i]? = some oi) (hsel : ∀ (j : Nat) (o : Oper) cs b, ops[j]? = some o → o.op ≠ .select cs b)
    (hlt : ∀ (listed : Array Bool) (i j : Nat), HeadInv md ops n listed → i < n → listed.getD i true = false → j ∈ Region.ready md ops listed → j < n) (hin : i < n)
    (hdone : ∀ listed Γ a, L listed Γ a → ∀ j ∈ Region.ready md ops listed, n ≤ j) :
    ∀ (f : Nat) (listed : Array Bool) (Γ : Mem) (a : Act), HeadInv md ops n listed → (∀ k, listed.getD k true = false → Γ k = none) →
      (∀ j oj, ops[j]? = some oj → j ≠ i → listed.getD j true = false → (∀ e ∈ oj.after, Region.binds md e = true → e.on ≠ i) → oi.apart ops oj = true) →
      i ∈ Region.ready md ops listed → Holds2 P T ops w0 md oi a Γ s →
      After2 T w0 i oi (wpAnyB2 P T md ops w0 n L f (listed.setIfInBounds i true)) Γ a s → wpAnyB2 P T md ops w0 n L (f + 1) listed Γ a := by
  intro f
  induction f with
  | zero =>
    intro listed Γ a inv hΓ _ hr hy H ne
    have hun := (mem_ready.1 hr).1
    refine ⟨fun h => (by rw [h] at hr; cases hr), fun j hj => ?_⟩
    have hjn : j < n := hlt listed i j inv hin hun hj
    refine ⟨hjn, ?_⟩
    by_cases hji : j = i
    · subst hji; exact fun o ho => by
        have : o = oi := Option.some.inj (ho.symm.trans hi)
        subst this
        exact ⟨s, hy, H⟩
    · obtain ⟨v, it, ho, hg⟩ := NE2_sM (i := i) hy ne
      have := hdone _ _ _ ((H v it ho) hg) j (ready_mono hj hji)
      omega
  | succ f ih =>
    intro listed Γ a inv hΓ hfree hr hy H ne
    have hun := (mem_ready.1 hr).1
    refine ⟨fun h => (by rw [h] at hr; cases hr), fun j hj => ?_⟩
    have hjn : j < n := hlt listed i j inv hin hun hj
    refine ⟨hjn, ?_⟩
    by_cases hji : j = i
    · subst hji; exact fun o ho => by
        have : o = oi := Option.some.inj (ho.symm.trans hi)
        subst this
        exact ⟨s, hy, H⟩
    · intro oj hoj
      obtain ⟨hjun, oj', hoj', hall⟩ := mem_ready.1 hj
      have e1 : oj' = oj := Option.some.inj (hoj'.symm.trans hoj)
      subst e1
      have hjw : ¬ waits md oj' i := waits_unready hj hoj hun
      have hiw : ¬ waits md oi j := waits_unready hr hi hjun
      have hap := hfree j oj' hoj hji hjun (fun e he hb heq => hjw ⟨e, he, hb, heq⟩)
      obtain ⟨p1, p2, p3⟩ := Oper.apart_spec hap
      have hsj := fun cs b => hsel j oj' cs b hoj
      have hsi := fun cs b => hsel i oi cs b hi
      have each : ∀ v it, Out T w0 s v it → NE2 w0 (sM i it Γ) → ∃ t, Holds2 P T ops w0 md oj' a Γ t ∧ ∀ u jt, Out T w0 t u jt → wpAnyB2 P T md ops w0 n L f ((listed.setIfInBounds i true).setIfInBounds j true) (sM j jt (sM i it Γ)) ((a.put oi.dst v).put oj'.dst u) := by
        intro v it ho hg
        obtain ⟨t, h1, h2⟩ := ((H v it ho) hg).2 j (ready_mono hj hji) |>.2 oj' hoj
        exact ⟨t, h1.same (execOp_put oj' hsj a oi.dst _ p1).symm (wanted_put oj' a oi.dst _ p1).symm (fun w hw => (clsFor_sM hjw w).2 hw), h2⟩
      obtain ⟨v0, it0, ho0, hg0⟩ := NE2_sM (i := i) hy ne
      obtain ⟨t, ht, ht2⟩ := each v0 it0 ho0 hg0
      refine ⟨t, ht, fun u jt hu => ?_⟩
      have hfree' : ∀ k ok, ops[k]? = some ok → k ≠ i → (listed.setIfInBounds j true).getD k true = false →
          (∀ e ∈ ok.after, Region.binds md e = true → e.on ≠ i) → oi.apart ops ok = true := fun k ok hk hki hun hno => by
        refine hfree k ok hk hki ?_ hno
        by_cases hjk : j = k
        · subst hjk; exact hjun
        · rw [getD_set_ne true hjk] at hun; exact hun
      have hjs : j < listed.size := by
        rcases Nat.lt_or_ge j listed.size with h | h
        · exact h
        · rw [inv.size] at h; have := (Array.getElem?_eq_some_iff.1 hoj).1; omega
      have hΓ' : ∀ k, (listed.setIfInBounds j true).getD k true = false → sM j jt Γ k = none := fun k hk => by
        by_cases hjk : j = k
        · subst hjk; simp [hjs] at hk
        · rw [getD_set_ne true hjk] at hk
          rw [sM_other (Ne.symm hjk)]; exact hΓ k hk
      refine ih (listed.setIfInBounds j true) (sM j jt Γ) (a.put oj'.dst u) (inv.set hj hjn) hΓ' hfree' (ready_mono hr (Ne.symm hji))
        (hy.same (execOp_put oi hsi a oj'.dst _ p3) (wanted_put oi a oj'.dst _ p3) (fun w hw => (clsFor_sM hiw w).1 hw)) (fun v it ho => ?_)
      have hgo : NE2 w0 (sM i it (sM j jt Γ)) → wpAnyB2 P T md ops w0 n L f ((listed.setIfInBounds j true).setIfInBounds i true) (sM i it (sM j jt Γ)) ((a.put oj'.dst u).put oi.dst v) := by
        intro hne
        rw [← sM_comm (Ne.symm hji)] at hne ⊢
        have hne' : NE2 w0 (sM i it Γ) := NE2_of_sM (by rw [sM_other hji]; exact hΓ j hjun) hne
        obtain ⟨t', ht', ht2'⟩ := each v it ho hne'
        obtain ⟨w, hw⟩ := ne
        have := Holds2.unique hw.for ht' ht
        subst this
        have h3 := ht2' u jt hu
        rw [Array.setIfInBounds_comm _ _ hji, ← Act.put_comm a v u p2]
        exact h3
      cases f with
      | zero => exact fun hne => hgo hne hne
      | succ f => exact fun hne => hgo hne hne

def wpLow2 (P : Program) (T : Posts) (ops : Array Oper) (w0 : World) (Lq : Mem → Act → Prop) : Nat → List Oper → Mem → Act → Prop
  | _, [], Γ, a => Lq Γ a
  | k, o :: rest, Γ, a => ∃ s, Holds2 P T ops w0 .any o a Γ s ∧ After2 T w0 k o (wpLow2 P T ops w0 Lq (k + 1) rest) Γ a s

theorem wpAnyB2_lex {n g : Nat} {Lq : Mem → Act → Prop} (hsel : Region.noSelect ops = true) (hlt : ∀ (listed : Array Bool) (i j : Nat), HeadInv .any ops n listed → i < n → listed.getD i true = false → j ∈ Region.ready .any ops listed → j < n) :
    ∀ (l : List Oper) (k : Nat) (listed : Array Bool) (Γ : Mem) (a : Act), (∀ j, j < l.length → l[j]? = ops[k + j]?) → k + l.length = n → HeadInv .any ops n listed → (∀ k, listed.getD k true = false → Γ k = none) →
    Region.lexHead .any ops g l.length k listed = true → wpLow2 P T ops w0 Lq k l Γ a →
    wpAnyB2 P T .any ops w0 n (fun listed' Γ' a' => Region.seqB .any ops g n listed' = true ∧ Lq Γ' a') l.length listed Γ a
  | [], k, listed, Γ, a, _, hk, _, _, hB, h => by
    have : k = n := by simpa using hk
    subst this
    exact fun _ => ⟨by simpa [Region.lexHead] using hB, h⟩
  | o :: l, k, listed, Γ, a, hl, hk, inv, hΓ, hB, h => by
    have h0 : ops[k]? = some o := by simpa using (hl 0 (by simp)).symm
    simp only [List.length_cons, Region.lexHead, Bool.and_eq_true] at hB
    obtain ⟨⟨hr, hf⟩, hB'⟩ := hB
    have hkn : k < n := by simp only [List.length_cons] at hk; omega
    have hr' : k ∈ Region.ready .any ops listed := by simpa using hr
    obtain ⟨s, hy, hK⟩ := h
    refine wpAnyB2_first h0 (Region.noSelect_spec hsel) hlt hkn (fun listed' Γ' a' hL => seqB_ready hL.1) l.length listed Γ a inv hΓ (Region.free_spec h0 hf) hr' hy (fun v it ho => ?_)
    have hks : k < listed.size := by
      rcases Nat.lt_or_ge k listed.size with h | h
      · exact h
      · rw [inv.size] at h; have := (Array.getElem?_eq_some_iff.1 h0).1; omega
    refine wpAnyB2_lex hsel hlt l (k + 1) _ _ _ (fun j hj => by have := hl (j + 1) (by simp; omega); simpa [Nat.add_assoc, Nat.add_comm 1 j] using this) (by simp only [List.length_cons] at hk; omega) (inv.set hr' hkn) (fun m hm => ?_) hB' (hK v it ho)
    by_cases hkm : k = m
    · subst hkm; simp [hks] at hm
    · rw [getD_set_ne true hkm] at hm
      rw [sM_other (Ne.symm hkm)]; exact hΓ m hm

def opUpon2 (P : Program) (T : Posts) (w : World) (v : Value) : Result Next → Prop
  | .ok (.value u) w' => w' = w ∧ u = v
  | .ok .skip w' => w' = w ∧ v = undef
  | .ok (.enter f args) w' => w' = w ∧ T f = none ∧ P.inits.idxOf? f = none ∧ Calls P f args w (fun e w'' => e = .returned v ∧ Grew w w'')
  | _ => False
def opLow2 (P : Program) (T : Posts) (o : Oper) (a : Act) (w0 : World) (K : Act → Prop) : Prop :=
  ∃ v, (∀ p : Regrown, opUpon2 P T (grow (redrawn w0 p.d) p.os) v ((execOp a.eval o).run P (grow (redrawn w0 p.d) p.os))) ∧ K (a.put o.dst v)
theorem low2_nil {Lq : Mem → Act → Prop} {k : Nat} {Γ : Mem} {a : Act} (h : Lq Γ a) : wpLow2 P T ops w0 Lq k [] Γ a := h
theorem low2_step {Lq : Mem → Act → Prop} {k : Nat} {o : Oper} {rest : List Oper} {Γ : Mem} {a : Act}
    (h : ∀ K : Act → Prop, (∀ a, wpLow2 P T ops w0 Lq (k + 1) rest Γ a → K a) → if Region.wanted o (yielded ops a.tmps) then opLow2 P T o a w0 K else K (a.put o.dst undef)) : wpLow2 P T ops w0 Lq k (o :: rest) Γ a := by
  have h := h (wpLow2 P T ops w0 Lq (k + 1) rest Γ) (fun _ h => h)
  by_cases hw : Region.wanted o (yielded ops a.tmps) = true
  · rw [if_pos hw] at h
    obtain ⟨v, h1, h2⟩ := h
    refine ⟨.quiet v, .inl ⟨hw, fun w hC => ?_⟩, fun u it ho => by obtain ⟨rfl, rfl⟩ := ho; exact h2⟩
    obtain ⟨p, rfl⟩ := regrown_of_below hC.1
    have := h1 p
    generalize (execOp a.eval o).run P (grow (redrawn w0 p.d) p.os) = r at *
    cases r with
    | ok n w' => cases n <;> exact this
    | halt x w' => exact this
  · rw [if_neg hw] at h
    exact ⟨.quiet undef, .inr ⟨by simpa using hw, rfl⟩, fun u it ho => by obtain ⟨rfl, rfl⟩ := ho; exact h⟩
theorem low2_new {Lq : Mem → Act → Prop} {k : Nat} {o : Oper} {rest : List Oper} {Γ : Mem} {a : Act} (obj : Obj) (hw : Region.wanted o (yielded ops a.tmps) = true)
    (hr : ∀ w, (execOp a.eval o).run P w = .ok (.value (.pointer (some ⟨w.heap.size, 0, none⟩))) (w.alloc obj)) (h : ∀ g : Nat, wpLow2 P T ops w0 Lq (k + 1) rest (Γ.upd k (locItem w0 g obj)) (a.put o.dst (.pointer (some ⟨g, 0, none⟩)))) : wpLow2 P T ops w0 Lq k (o :: rest) Γ a :=
  ⟨.loc .ptr obj, ⟨hw, fun w _ => by rw [hr w]; exact ⟨rfl, rfl⟩⟩, fun u it ho => by obtain ⟨g, rfl, rfl⟩ := ho; exact h g⟩
theorem low2_slice {Lq : Mem → Act → Prop} {k : Nat} {o : Oper} {rest : List Oper} {Γ : Mem} {a : Act} (n c : Nat) (obj : Obj) (hw : Region.wanted o (yielded ops a.tmps) = true)
    (hr : ∀ w, (execOp a.eval o).run P w = .ok (.value (.slice (some ⟨w.heap.size, 0, none⟩) n c)) (w.alloc obj)) (h : ∀ g : Nat, wpLow2 P T ops w0 Lq (k + 1) rest (Γ.upd k (locItem w0 g obj)) (a.put o.dst (.slice (some ⟨g, 0, none⟩) n c))) : wpLow2 P T ops w0 Lq k (o :: rest) Γ a :=
  ⟨.loc (.slice n c) obj, ⟨hw, fun w _ => by rw [hr w]; exact ⟨rfl, rfl⟩⟩, fun u it ho => by obtain ⟨g, rfl, rfl⟩ := ho; exact h g⟩
theorem low2_max {Lq : Mem → Act → Prop} {k : Nat} {o : Oper} {rest : List Oper} {Γ : Mem} {a : Act} (x y : Operand) (ats : Array TypeId) (hw : Region.wanted o (yielded ops a.tmps) = true)
    (hop : o.op = Op.call { callee := Callee.builtin Builtin.max, args := #[x, y], argTypes := ats }) (kd : IntKind) (m n : Int) (hx : a.eval x = .int kd m) (hy : a.eval y = .int kd n)
    (h : wpLow2 P T ops w0 Lq (k + 1) rest Γ (a.put o.dst (.int kd (max m n)))) : wpLow2 P T ops w0 Lq k (o :: rest) Γ a := by
  refine ⟨.quiet (.int kd (max m n)), .inl ⟨hw, fun w hC => ?_⟩, fun u it ho => by obtain ⟨rfl, rfl⟩ := ho; exact h⟩
  have e : (if m < n then n else m) = max m n := by split <;> omega
  simp [execOp, hop, resolve, invoke, builtin, hx, hy, Builtin.max_, Builtin.max2, Result.andThen, e, quietUpon2]
theorem low2_min {Lq : Mem → Act → Prop} {k : Nat} {o : Oper} {rest : List Oper} {Γ : Mem} {a : Act} (x y : Operand) (ats : Array TypeId) (hw : Region.wanted o (yielded ops a.tmps) = true)
    (hop : o.op = Op.call { callee := Callee.builtin Builtin.min, args := #[x, y], argTypes := ats }) (kd : IntKind) (m n : Int) (hx : a.eval x = .int kd m) (hy : a.eval y = .int kd n)
    (h : wpLow2 P T ops w0 Lq (k + 1) rest Γ (a.put o.dst (.int kd (min m n)))) : wpLow2 P T ops w0 Lq k (o :: rest) Γ a := by
  refine ⟨.quiet (.int kd (min m n)), .inl ⟨hw, fun w hC => ?_⟩, fun u it ho => by obtain ⟨rfl, rfl⟩ := ho; exact h⟩
  have e : (if n < m then n else m) = min m n := by split <;> omega
  simp [execOp, hop, resolve, invoke, builtin, hx, hy, Builtin.min_, Builtin.min2, Result.andThen, e, quietUpon2]
/-- a table with one function -/
def post1 (f : FuncId) (A : Array Value → Value → World → World → Prop) : Posts := fun g => if g = f then some A else none
def noPosts : Posts := fun _ => none
theorem post1_same (f : FuncId) (A : Array Value → Value → World → World → Prop) : post1 f A f = some A := if_pos rfl
theorem post1_other {f g : FuncId} (A : Array Value → Value → World → World → Prop) (h : g ≠ f) : post1 f A g = none := if_neg h
/-- a call whose result is a place: its post is the table's; it may read what the region has made -/
theorem low2_call {Lq : Mem → Act → Prop} {k : Nat} {o : Oper} {rest : List Oper} {Γ : Mem} {a : Act} (f : FuncId) (args : Array Value) (A : Array Value → Value → World → World → Prop) (hw : Region.wanted o (yielded ops a.tmps) = true)
    (hr : ∀ w, (execOp a.eval o).run P w = .ok (.enter f args) w) (hT : T f = some A)
    (hc : ∀ w, Below w0.heap.size w0 w → (∀ i x, waits .any o i → Γ i = some x → x.phi w) → Calls P f args w (fun e w'' => ∃ v, e = .returned v ∧ A args v w w'' ∧ Below w.heap.size w w''))
    (h : ∀ v, (∃ w1 w2, A args v w1 w2) → wpLow2 P T ops w0 Lq (k + 1) rest (Γ.upd k (callItem A args v)) (a.put o.dst v)) : wpLow2 P T ops w0 Lq k (o :: rest) Γ a :=
  ⟨.call f args, ⟨hw, fun w hC => by rw [hr w]; exact ⟨rfl, rfl, rfl, A, hT, hc w hC.1 hC.2⟩⟩, fun u it ho => by
    obtain ⟨A', hA', hx, rfl⟩ := ho
    rw [hT] at hA'; cases hA'
    exact h u hx⟩
/-- a call with one value that reads what the region has made -/
theorem low2_reads {Lq : Mem → Act → Prop} {k : Nat} {o : Oper} {rest : List Oper} {Γ : Mem} {a : Act} (f : FuncId) (args : Array Value) (v : Value) (hw : Region.wanted o (yielded ops a.tmps) = true)
    (hr : ∀ w, (execOp a.eval o).run P w = .ok (.enter f args) w) (hT : T f = none) (hi : P.inits.idxOf? f = none)
    (hc : ∀ w, Below w0.heap.size w0 w → (∀ i x, waits .any o i → Γ i = some x → x.phi w) → Calls P f args w (fun e w'' => e = .returned v ∧ Below w.heap.size w w''))
    (h : wpLow2 P T ops w0 Lq (k + 1) rest Γ (a.put o.dst v)) : wpLow2 P T ops w0 Lq k (o :: rest) Γ a :=
  ⟨.quiet v, .inl ⟨hw, fun w hC => by rw [hr w]; exact ⟨rfl, hT, hi, hc w hC.1 hC.2⟩⟩, fun u it ho => by obtain ⟨rfl, rfl⟩ := ho; exact h⟩

/-- a store of what is there already changes nothing -/
theorem setCell_again {W : World} {g i : Nat} {cs : Array Value} {t : TypeId} {v : Value} (h : W.heap[g]? = some (.cells cs t)) (hi : cs[i]? = some v) : W.setCell ⟨g, i, none⟩ v = W := by
  have e : (W.heap.modify g fun
      | .cells c elem frozen => .cells (if (⟨g, i, none⟩ : Addr).spot.isSome then c else c.setIfInBounds i v) elem frozen
      | o => o) = W.heap := by
    refine Array.ext_getElem? fun j => ?_
    rw [Array.getElem?_modify]
    by_cases hj : g = j
    · subst hj
      have e2 : cs.setIfInBounds i v = cs := by
        refine Array.ext_getElem? fun k => ?_
        rw [Array.getElem?_setIfInBounds]
        by_cases hk : i = k
        · subst hk
          rw [if_pos rfl, hi]
          have := (Array.getElem?_eq_some_iff.1 hi).1
          simp [this]
        · rw [if_neg hk]
      rw [if_pos rfl, h]
      simp [e2]
    · rw [if_neg hj]
  have e' : (W.setCell ⟨g, i, none⟩ v).heap = W.heap := e
  calc W.setCell ⟨g, i, none⟩ v = { W with heap := (W.setCell ⟨g, i, none⟩ v).heap } := rfl
    _ = W := by rw [e']
/-- a store into a block that the region made, of what is there already -/
theorem low2_again {Lq : Mem → Act → Prop} {k : Nat} {o : Oper} {rest : List Oper} {Γ : Mem} {a : Act} (i g : Nat) (cs : Array Value) (t : TypeId) (hw : Region.wanted o (yielded ops a.tmps) = true)
    (hi : waits .any o i) (hg : Γ i = some (locItem w0 g (.cells cs t)))
    (hr : ∀ w, Bk w g cs t → quietUpon2 P T w undef ((execOp a.eval o).run P w))
    (h : wpLow2 P T ops w0 Lq (k + 1) rest Γ (a.put o.dst undef)) : wpLow2 P T ops w0 Lq k (o :: rest) Γ a :=
  ⟨.quiet undef, .inl ⟨hw, fun w hC => hr w (hC.2 i _ hi hg).2⟩, fun u it ho => by obtain ⟨rfl, rfl⟩ := ho; exact h⟩

/-- **One walk serves every order**, with places among the results. -/
theorem wp_region_low2 {id : Nat} {Q : Exit → Act → World → Prop} {a : Act} {w : World} {l : List Oper} (T : Posts) (n : Nat) (hm : P.follows .mixedOrders = true) (hB : Region.lexTailB .any l.toArray n = true)
    (h : wpLow2 P T l.toArray w (fun Γ a' => ∀ w', Cls2 w Γ w' → wpList P l.toArray Q (l.drop n) a' w') 0 (l.take n) (fun _ => none) a) : (Code.region id l.toArray true).wp P Q a w := by
  simp only [Region.lexTailB, Bool.and_eq_true, decide_eq_true_eq] at hB
  obtain ⟨⟨⟨⟨hsel, hn⟩, hs⟩, hc⟩, hlex⟩ := hB
  have hn' : n < l.length := by simpa using hn
  have htl : (l.take n).length = n := by simp; omega
  have hdl : (l.drop n).length = l.toArray.size - n := by simp
  have inv0 : HeadInv .any l.toArray n (Array.replicate l.toArray.size false) :=
    ⟨by simp, fun j oj _ hl => (by rw [getD_replicate_false] at hl; cases hl), fun t _ ht => getD_in (by simpa using ht) (getD_replicate_false _ _)⟩
  have hlt : ∀ (listed : Array Bool) (i j : Nat), HeadInv .any l.toArray n listed → i < n → listed.getD i true = false → j ∈ Region.ready .any l.toArray listed → j < n := fun listed i j inv hin hun hj => by
    rcases Nat.lt_or_ge j n with h | h
    · exact h
    · exact absurd hj (tail_waits hs hc hn inv _ i rfl hin hun j h)
  have H := wpAnyB2_lex (g := l.toArray.size - n) hsel hlt (l.take n) 0 _ (fun _ => none) a (fun j hj => by
    have hj' : j < n := by rw [htl] at hj; exact hj
    simp [hj']) (by simpa using htl) inv0 (fun _ _ => rfl) (by rw [htl]; exact hlex) h
  refine wp_region_any hm ?_
  have := wpAny_of_headB2 (T := T) (md := .any) (n := n) (ops := l.toArray) (w0 := w) (L := fun listed' Γ' a' => Region.seqB .any l.toArray (l.toArray.size - n) n listed' = true ∧ ∀ w', Cls2 w Γ' w' → wpList P l.toArray Q (l.drop n) a' w') (Q' := Q) (g := l.toArray.size - n) (fun listed Γ a' w' hC hL => by
    have := wpAny_of_seq (md := .any) (Q' := Q) (l.drop n) n listed a' w' (fun j => by simp [List.getElem?_drop]) (by rw [hdl]; exact hL.1) (hL.2 w' hC)
    rwa [hdl] at this) _ _ (fun _ => none) _ { w with drawn := w.drawn + 1 } ⟨⟨rfl, rfl, rfl, Nat.le_refl _, fun _ _ => rfl⟩, fun i x hi => (by cases hi), fun i x hi => (by cases hi), fun i x g hi => (by cases hi), fun i j x y g hi => (by cases hi)⟩ H
  rw [htl, show n + (l.toArray.size - n) = l.toArray.size by omega] at this
  exact this
/-- the same of a region in which nothing need come last -/
theorem wp_region_all2 {id : Nat} {Q : Exit → Act → World → Prop} {a : Act} {w : World} {l : List Oper} (T : Posts) (hm : P.follows .mixedOrders = true) (hB : (Region.noSelect l.toArray && Region.lexHead .any l.toArray 0 l.length 0 (Array.replicate l.length false)) = true)
    (h : wpLow2 P T l.toArray w (fun Γ a' => ∀ w', Cls2 w Γ w' → Q .normal a' w') 0 l (fun _ => none) a) : (Code.region id l.toArray true).wp P Q a w := by
  simp only [Bool.and_eq_true] at hB
  have hsz : l.toArray.size = l.length := by simp
  have inv0 : HeadInv .any l.toArray l.length (Array.replicate l.toArray.size false) :=
    ⟨by simp, fun j oj _ hl => (by rw [getD_replicate_false] at hl; cases hl), fun t h1 h2 => by omega⟩
  have hlt : ∀ (listed : Array Bool) (i j : Nat), HeadInv .any l.toArray l.length listed → i < l.length → listed.getD i true = false → j ∈ Region.ready .any l.toArray listed → j < l.length := fun listed i j inv hin hun hj => by
    obtain ⟨o, ho⟩ := ops_ready hj
    have := (Array.getElem?_eq_some_iff.1 ho).1
    omega
  have H := wpAnyB2_lex (g := 0) hB.1 hlt l 0 _ (fun _ => none) a (fun j hj => by simp) (by simp) inv0 (fun _ _ => rfl) (by rw [hsz]; exact hB.2) h
  refine wp_region_any hm ?_
  have := wpAny_of_headB2 (T := T) (md := .any) (n := l.length) (ops := l.toArray) (w0 := w) (L := fun listed' Γ' a' => Region.seqB .any l.toArray 0 l.length listed' = true ∧ ∀ w', Cls2 w Γ' w' → Q .normal a' w') (Q' := Q) (g := 0) (fun listed Γ a' w' hC hL => by
    have h1 := hL.1
    simp only [Region.seqB, List.isEmpty_iff] at h1
    exact ⟨h1, hL.2 w' hC⟩) _ _ (fun _ => none) _ { w with drawn := w.drawn + 1 } ⟨⟨rfl, rfl, rfl, Nat.le_refl _, fun _ _ => rfl⟩, fun i x hi => (by cases hi), fun i x hi => (by cases hi), fun i x g hi => (by cases hi), fun i j x y g hi => (by cases hi)⟩ H
  simpa using this
end
end Go.Proofs.YtghfggfgndgkjaaGreatDoor
