/- The one walk of a region (XRegion, XReg2), with calls that change blocks which were there, and stores into blocks that the region made. -/
import Derived.Test.YtghfggfgndgkjaaGreatDoorReg2
set_option linter.unusedVariables false
set_option linter.unusedSimpArgs false
namespace Go.Proofs.YtghfggfgndgkjaaGreatDoor
open Go Go.RowKit Go.Sort

/-- the later world is as the first one, but for the blocks of U and new ones -/
structure Mut (U : Nat → Prop) (w w' : World) : Prop where
  os : w'.os = w.os
  tape : w'.tape = w.tape
  output : w'.output = w.output
  size : w.heap.size ≤ w'.heap.size
  block : ∀ b, b < w.heap.size → ¬ U b → w'.heap[b]? = w.heap[b]?
theorem Mut.refl (U : Nat → Prop) (w : World) : Mut U w w := ⟨rfl, rfl, rfl, Nat.le_refl _, fun _ _ _ => rfl⟩
theorem Mut.trans {U V : Nat → Prop} {a b c : World} (h : Mut U a b) (k : Mut V b c) (hUV : ∀ x, x < a.heap.size → V x → U x) : Mut U a c :=
  ⟨k.os.trans h.os, k.tape.trans h.tape, k.output.trans h.output, Nat.le_trans h.size k.size, fun x hx hU => (k.block x (Nat.lt_of_lt_of_le hx h.size) (fun hV => hU (hUV x hx hV))).trans (h.block x hx hU)⟩
theorem Mut.of_below {U : Nat → Prop} {w w' : World} (h : Below w.heap.size w w') : Mut U w w' := ⟨h.os, h.tape, h.output, h.size, fun b hb _ => h.block b hb⟩
theorem Mut.mono {U V : Nat → Prop} {w w' : World} (h : Mut U w w') (hUV : ∀ x, x < w.heap.size → U x → V x) : Mut V w w' := ⟨h.os, h.tape, h.output, h.size, fun b hb hV => h.block b hb (fun hU => hV (hUV b hb hU))⟩
theorem Mut.below {U : Nat → Prop} {n : Nat} {w w' : World} (h : Mut U w w') (hn : n ≤ w.heap.size) (hU : ∀ b, b < n → ¬ U b) : Below n w w' := ⟨h.os, h.tape, h.output, h.size, fun b hb => h.block b (Nat.lt_of_lt_of_le hb hn) (hU b hb)⟩
theorem Bk.mut {U : Nat → Prop} {w w' : World} {g : Nat} {cs : Array Value} {t : TypeId} (h : Bk w g cs t) (hm : Mut U w w') (hg : ¬ U g) : Bk w' g cs t := by
  unfold Bk at *
  rw [hm.block g (Array.getElem?_eq_some_iff.1 h).1 hg]; exact h

/-- what the chain of calls has come to: blocks that are its own, and what is known of them and of S -/
structure Chain where
  own : Nat → Prop
  phi : World → Prop
def Chain.next (S : Nat → Prop) (Φ : Chain) (w1 w2 : World) : Chain :=
  ⟨fun b => Φ.own b ∨ (w1.heap.size ≤ b ∧ b < w2.heap.size), fun u => ∀ b, (S b ∨ Φ.own b ∨ (w1.heap.size ≤ b ∧ b < w2.heap.size)) → u.heap[b]? = w2.heap[b]?⟩
def Chain.first (S : Nat → Prop) (w0 : World) : Chain := ⟨fun _ => False, fun u => ∀ b, S b → u.heap[b]? = w0.heap[b]?⟩
def putObj (w : World) (g : Nat) (o : Obj) : World := { w with heap := w.heap.setIfInBounds g o }

section
variable {P : Program} {ops : Array Oper} {md : Region.Mode} {w0 : World} {T : Posts} {S : Nat → Prop} {M : List Nat} {N : Nat → Option Nat}

structure Cls3 (w0 : World) (S : Nat → Prop) (Γ : Made) (Φ : Chain) (w : World) : Prop where
  fr : Mut S w0 w
  old : ∀ b, S b → b < w0.heap.size
  made : ∀ i g o, Γ i = some (g, o) → w0.heap.size ≤ g ∧ w.heap[g]? = some o
  apart : ∀ i j g o o', Γ i = some (g, o) → Γ j = some (g, o') → i = j
  phi : Φ.phi w
  stab : ∀ u u' : World, (∀ b, S b ∨ Φ.own b → u'.heap[b]? = u.heap[b]?) → Φ.phi u → Φ.phi u'
  lies : ∀ b, Φ.own b → w0.heap.size ≤ b ∧ b < w.heap.size
  free : ∀ i g o, Γ i = some (g, o) → ¬ Φ.own g

/-- what operation i may see of what operation j made -/
def vis (md : Region.Mode) (N : Nat → Option Nat) (op : Oper) (i j : Nat) : Prop := waits md op j ∧ ∀ k, N j = some k → i = k ∨ waits md op k
def ClsFor3 (w0 : World) (S : Nat → Prop) (M : List Nat) (N : Nat → Option Nat) (md : Region.Mode) (i : Nat) (op : Oper) (Γ : Made) (Φ : Chain) (w : World) : Prop :=
  Mut S w0 w ∧ (∀ j g o, vis md N op i j → Γ j = some (g, o) → w0.heap.size ≤ g ∧ w.heap[g]? = some o) ∧ (i ∈ M → Φ.phi w ∧ ∀ b, Φ.own b → w0.heap.size ≤ b ∧ b < w.heap.size)
theorem Cls3.for {i : Nat} {op : Oper} {Γ : Made} {Φ : Chain} {w : World} (h : Cls3 w0 S Γ Φ w) : ClsFor3 w0 S M N md i op Γ Φ w := ⟨h.fr, fun j g o _ hj => h.made j g o hj, fun _ => ⟨h.phi, h.lies⟩⟩

theorem Cls3.start (hS : ∀ b, S b → b < w0.heap.size) (d : Nat) : Cls3 w0 S (fun _ => none) (Chain.first S w0) { w0 with drawn := d } :=
  ⟨⟨rfl, rfl, rfl, Nat.le_refl _, fun _ _ _ => rfl⟩, hS, fun i g o h => (by cases h), fun i j g o o' h => (by cases h), fun b _ => rfl, fun u u' h hp b hb => (h b (.inl hb)).trans (hp b hb), fun b h => h.elim, fun i g o h => (by cases h)⟩
theorem Cls3.later {Γ : Made} {Φ : Chain} {w w' : World} (h : Cls3 w0 S Γ Φ w) (hb : Below w.heap.size w w') : Cls3 w0 S Γ Φ w' := by
  refine ⟨h.fr.trans (Mut.of_below (U := S) hb) (fun _ _ h => h), h.old, fun i g o hi => ⟨(h.made i g o hi).1, ?_⟩, h.apart, h.stab w w' (fun b hb' => hb.block b ?_) h.phi, h.stab, fun b hb' => ⟨(h.lies b hb').1, Nat.lt_of_lt_of_le (h.lies b hb').2 hb.size⟩, h.free⟩
  · have := (h.made i g o hi).2
    rw [hb.block g (Array.getElem?_eq_some_iff.1 this).1]; exact this
  · rcases hb' with h1 | h1
    · exact Nat.lt_of_lt_of_le (h.old b h1) h.fr.size
    · exact (h.lies b h1).2
theorem Cls3.upd_loc {Γ : Made} {Φ : Chain} {w : World} (h : Cls3 w0 S Γ Φ w) (i : Nat) (o : Obj) : Cls3 w0 S (Γ.upd i w.heap.size o) Φ (w.alloc o) := by
  have hb : Below w.heap.size w (w.alloc o) := (Below.refl _ _).alloc (Nat.le_refl _) o
  have h' := h.later hb
  refine ⟨h'.fr, h'.old, fun j g o1 hj => ?_, fun j k g o1 o2 hj hk => ?_, h'.phi, h'.stab, h'.lies, fun j g o1 hj => ?_⟩
  · unfold Made.upd at hj
    split at hj
    · cases hj
      exact ⟨h.fr.size, by show (w.heap.push o)[w.heap.size]? = some o; simp⟩
    · exact h'.made j g o1 hj
  · have lt : ∀ j g o1, Γ j = some (g, o1) → g < w.heap.size := fun j g o1 hj => (Array.getElem?_eq_some_iff.1 (h.made j g o1 hj).2).1
    unfold Made.upd at hj hk
    by_cases e1 : j = i <;> by_cases e2 : k = i
    · rw [e1, e2]
    · rw [if_pos e1] at hj
      rw [if_neg e2] at hk
      cases hj
      exact absurd (lt _ _ _ hk) (Nat.lt_irrefl _)
    · rw [if_neg e1] at hj
      rw [if_pos e2] at hk
      cases hk
      exact absurd (lt _ _ _ hj) (Nat.lt_irrefl _)
    · rw [if_neg e1] at hj
      rw [if_neg e2] at hk
      exact h.apart j k g o1 o2 hj hk
  · unfold Made.upd at hj
    split at hj
    · cases hj
      exact fun ho => absurd (h.lies _ ho).2 (Nat.lt_irrefl _)
    · exact h.free j g o1 hj
theorem putObj_other {w : World} {g b : Nat} {o : Obj} (h : b ≠ g) : (putObj w g o).heap[b]? = w.heap[b]? := by
  show (w.heap.setIfInBounds g o)[b]? = _
  rw [Array.getElem?_setIfInBounds, if_neg (Ne.symm h)]
theorem putObj_same {w : World} {g : Nat} {o : Obj} (h : g < w.heap.size) : (putObj w g o).heap[g]? = some o := by
  show (w.heap.setIfInBounds g o)[g]? = _
  rw [Array.getElem?_setIfInBounds, if_pos rfl, if_pos h]
theorem putObj_size {w : World} {g : Nat} {o : Obj} : (putObj w g o).heap.size = w.heap.size := by
  show (w.heap.setIfInBounds g o).size = _
  simp
theorem Cls3.upd_sto {Γ : Made} {Φ : Chain} {w : World} (h : Cls3 w0 S Γ Φ w) (t g : Nat) (o o' : Obj) (hg : Γ t = some (g, o')) : Cls3 w0 S (Γ.upd t g o) Φ (putObj w g o) := by
  have hg0 := (h.made t g o' hg).1
  have hgl := (Array.getElem?_eq_some_iff.1 (h.made t g o' hg).2).1
  refine ⟨⟨h.fr.os, h.fr.tape, h.fr.output, by rw [putObj_size]; exact h.fr.size, fun b hb hS => ?_⟩, h.old, fun j g1 o1 hj => ?_, fun j k g1 o1 o2 hj hk => ?_, h.stab w _ (fun b hb => putObj_other ?_) h.phi, h.stab, fun b hb => by rw [putObj_size]; exact h.lies b hb, fun j g1 o1 hj => ?_⟩
  · rw [putObj_other (by omega)]; exact h.fr.block b hb hS
  · unfold Made.upd at hj
    split at hj
    · cases hj
      exact ⟨hg0, putObj_same hgl⟩
    · rename_i hne
      have := h.made j g1 o1 hj
      exact ⟨this.1, by rw [putObj_other (fun e => hne (h.apart j t g o1 o' (by rw [← e]; exact hj) hg))]; exact this.2⟩
  · have get : ∀ m g1 o1, (Γ.upd t g o) m = some (g1, o1) → ∃ o2, Γ m = some (g1, o2) := fun m g1 o1 hm => by
      unfold Made.upd at hm
      split at hm
      · rename_i e; cases hm; exact ⟨o', by rw [e]; exact hg⟩
      · exact ⟨_, hm⟩
    obtain ⟨_, h1⟩ := get _ _ _ hj
    obtain ⟨_, h2⟩ := get _ _ _ hk
    exact h.apart j k g1 _ _ h1 h2
  · rintro rfl
    rcases hb with h1 | h1
    · exact absurd (h.old _ h1) (by omega)
    · exact h.free t _ o' hg h1
  · unfold Made.upd at hj
    split at hj
    · cases hj; exact h.free t g o' hg
    · exact h.free j g1 o1 hj
theorem Cls3.upd_call {Γ : Made} {Φ : Chain} {w w' : World} (h : Cls3 w0 S Γ Φ w) (hm : Mut (fun b => S b ∨ Φ.own b) w w') : Cls3 w0 S Γ (Φ.next S w w') w' := by
  refine ⟨h.fr.trans hm (fun x hx hU => ?_), h.old, fun i g o hi => ⟨(h.made i g o hi).1, ?_⟩, h.apart, fun b _ => rfl, fun u u' h1 hp b hb => ?_, fun b hb => ?_, fun i g o hi ho => ?_⟩
  · rcases hU with h1 | h1
    · exact h1
    · exact absurd (h.lies x h1).1 (by omega)
  · have := (h.made i g o hi)
    rw [hm.block g (Array.getElem?_eq_some_iff.1 this.2).1 (fun hU => ?_)]; exact this.2
    rcases hU with h1 | h1
    · exact absurd (h.old _ h1) (by omega)
    · exact h.free i g o hi h1
  · exact (h1 b (by rcases hb with h | h | h; exact .inl h; exact .inr (.inl h); exact .inr (.inr h))).trans (hp b hb)
  · rcases hb with h1 | h1
    · exact ⟨(h.lies b h1).1, Nat.lt_of_lt_of_le (h.lies b h1).2 hm.size⟩
    · exact ⟨Nat.le_trans h.fr.size h1.1, h1.2⟩
  · rcases ho with h1 | h1
    · exact h.free i g o hi h1
    · exact absurd (Array.getElem?_eq_some_iff.1 (h.made i g o hi).2).1 (by omega)

inductive Spec3 where
  | quiet (v : Value)
  | loc (f : Form) (o : Obj)
  | call (f : FuncId) (args : Array Value)
  | sto (t g : Nat) (o : Obj)
/-- what an operation does to what is known -/
inductive Dl where
  | nop
  | set (t g : Nat) (o : Obj)
  | next (w1 w2 : World)
def Dl.g : Dl → Made → Made
  | .set t g o, Γ => Γ.upd t g o
  | .nop, Γ => Γ
  | .next _ _, Γ => Γ
def Dl.p (S : Nat → Prop) : Dl → Chain → Chain
  | .next w1 w2, Φ => Φ.next S w1 w2
  | .nop, Φ => Φ
  | .set _ _ _, Φ => Φ

def callUpon3 (P : Program) (T : Posts) (U : Nat → Prop) (w : World) (f : FuncId) (args : Array Value) : Result Next → Prop
  | .ok (.enter f' args') w' => w' = w ∧ f' = f ∧ args' = args ∧ ∃ A, T f = some A ∧ Calls P f args w (fun e w'' => ∃ v, e = .returned v ∧ A args v w w'' ∧ Mut U w w'')
  | _ => False
def stoUpon (w : World) (g : Nat) (o : Obj) : Result Next → Prop
  | .ok (.value u) w' => u = undef ∧ w' = putObj w g o
  | .ok .skip w' => w' = putObj w g o
  | _ => False

def Holds3 (P : Program) (T : Posts) (ops : Array Oper) (w0 : World) (S : Nat → Prop) (M : List Nat) (N : Nat → Option Nat) (md : Region.Mode) (i : Nat) (op : Oper) (a : Act) (Γ : Made) (Φ : Chain) : Spec3 → Prop
  | .quiet v => (Region.wanted op (yielded ops a.tmps) = true ∧ (∀ t, N t ≠ some i) ∧ ∀ w, ClsFor3 w0 S M N md i op Γ Φ w → quietUpon2 P T w v ((execOp a.eval op).run P w)) ∨ (Region.wanted op (yielded ops a.tmps) = false ∧ v = undef)
  | .loc f o => Region.wanted op (yielded ops a.tmps) = true ∧ (∀ t, N t ≠ some i) ∧ ∀ w, ClsFor3 w0 S M N md i op Γ Φ w → locUpon w f o ((execOp a.eval op).run P w)
  | .call f args => Region.wanted op (yielded ops a.tmps) = true ∧ (∀ t, N t ≠ some i) ∧ i ∈ M ∧ ∀ w, ClsFor3 w0 S M N md i op Γ Φ w → callUpon3 P T (fun b => S b ∨ Φ.own b) w f args ((execOp a.eval op).run P w)
  | .sto t g o => Region.wanted op (yielded ops a.tmps) = true ∧ N t = some i ∧ waits md op t ∧ (∃ o', Γ t = some (g, o')) ∧ ∀ w, ClsFor3 w0 S M N md i op Γ Φ w → stoUpon w g o ((execOp a.eval op).run P w)
/-- what may come of it -/
def Out3 (T : Posts) (w0 : World) (S : Nat → Prop) (M : List Nat) (N : Nat → Option Nat) (md : Region.Mode) (i : Nat) (op : Oper) (Γ : Made) (Φ : Chain) : Spec3 → Value → Dl → Prop
  | .quiet u, v, d => v = u ∧ d = .nop
  | .loc f o, v, d => ∃ g, v = f.at g ∧ d = .set i g o
  | .call f args, v, d => ∃ A w1 w2, T f = some A ∧ ClsFor3 w0 S M N md i op Γ Φ w1 ∧ A args v w1 w2 ∧ Mut (fun b => S b ∨ Φ.own b) w1 w2 ∧ d = .next w1 w2
  | .sto t g o, v, d => v = undef ∧ d = .set t g o
def After3 (T : Posts) (w0 : World) (S : Nat → Prop) (M : List Nat) (N : Nat → Option Nat) (md : Region.Mode) (i : Nat) (op : Oper) (K : Made → Chain → Act → Prop) (Γ : Made) (Φ : Chain) (a : Act) (s : Spec3) : Prop :=
  ∀ v d, Out3 T w0 S M N md i op Γ Φ s v d → K (d.g Γ) (d.p S Φ) (a.put op.dst v)

theorem Holds3.unique {i : Nat} {op : Oper} {a : Act} {Γ : Made} {Φ : Chain} {s s' : Spec3} {w : World} (hN : ∀ t t' k, N t = some k → N t' = some k → t = t') (hw : ClsFor3 w0 S M N md i op Γ Φ w)
    (h : Holds3 P T ops w0 S M N md i op a Γ Φ s) (h' : Holds3 P T ops w0 S M N md i op a Γ Φ s') : s = s' := by
  have off : ∀ (s : Spec3), Holds3 P T ops w0 S M N md i op a Γ Φ s → Region.wanted op (yielded ops a.tmps) = false → s = .quiet undef := fun s h hf => by
    cases s with
    | quiet v => rcases h with ⟨h1, _⟩ | ⟨_, h2⟩
                 · rw [hf] at h1; cases h1
                 · rw [h2]
    | loc f o => have := h.1; rw [hf] at this; cases this
    | call f o => have := h.1; rw [hf] at this; cases this
    | sto t g o => have := h.1; rw [hf] at this; cases this
  by_cases hf : Region.wanted op (yielded ops a.tmps) = false
  · rw [off s h hf, off s' h' hf]
  · have on : ∀ v, Holds3 P T ops w0 S M N md i op a Γ Φ (.quiet v) → (∀ t, N t ≠ some i) ∧ quietUpon2 P T w v ((execOp a.eval op).run P w) := fun v h => by
      rcases h with ⟨_, h1, h2⟩ | ⟨h1, _⟩
      · exact ⟨h1, h2 w hw⟩
      · exact absurd h1 hf
    have nosto : ∀ s, (∀ t g o, s ≠ .sto t g o) → Holds3 P T ops w0 S M N md i op a Γ Φ s → ∀ t, N t ≠ some i := fun s hs h => by
      cases s with
      | quiet v => exact (on v h).1
      | loc f o => exact h.2.1
      | call f o => exact h.2.1
      | sto t g o => exact absurd rfl (hs t g o)
    by_cases hst : ∃ t g o, s = .sto t g o
    · obtain ⟨t, g, o, rfl⟩ := hst
      by_cases hst' : ∃ t g o, s' = .sto t g o
      · obtain ⟨t', g', o', rfl⟩ := hst'
        obtain ⟨_, n1, wt, ⟨x, hx⟩, h2⟩ := h
        obtain ⟨_, n2, _, ⟨y, hy⟩, h4⟩ := h'
        have e := hN t t' i n1 n2
        subst e
        have e : (g, x) = (g', y) := Option.some.inj (hx.symm.trans hy)
        have e1 : g = g' := congrArg Prod.fst e
        subst e1
        have hl := (hw.2.1 t g x ⟨wt, fun k hk => .inl (Option.some.inj (n1.symm.trans hk))⟩ hx).2
        have hl := (Array.getElem?_eq_some_iff.1 hl).1
        have fin : putObj w g o = putObj w g o' → o = o' := fun e => by
          have e := congrArg (fun u : World => u.heap[g]?) e
          simp only [putObj_same hl] at e
          exact Option.some.inj e
        have h2 := h2 w hw
        have h4 := h4 w hw
        generalize (execOp a.eval op).run P w = r at *
        cases r with
        | ok n w' =>
          cases n <;> simp only [stoUpon] at h2 h4
          case value u => rw [fin (h2.2.symm.trans h4.2)]
          case skip => rw [fin (h2.symm.trans h4)]
        | halt x w' => simp only [stoUpon] at h2
      · exact absurd h.2.1 (nosto s' (fun t g o e => hst' ⟨t, g, o, e⟩) h' t)
    · by_cases hst' : ∃ t g o, s' = .sto t g o
      · obtain ⟨t', g', o', rfl⟩ := hst'
        exact absurd h'.2.1 (nosto s (fun t g o e => hst ⟨t, g, o, e⟩) h t')
      · cases s with
        | sto t g o => exact absurd ⟨t, g, o, rfl⟩ hst
        | quiet v =>
          have h2 := (on v h).2
          cases s' with
          | sto t g o => exact absurd ⟨t, g, o, rfl⟩ hst'
          | quiet v' =>
            have h4 := (on v' h').2
            generalize (execOp a.eval op).run P w = r at *
            cases r with
            | ok n w' =>
              cases n <;> simp only [quietUpon2] at h2 h4
              case value u => rw [← h2.2, ← h4.2]
              case skip => rw [h2.2, h4.2]
              case enter f args => rw [calls_agree h2.2.2.2 h4.2.2.2 h2.2.2.1]
            | halt x w' => simp only [quietUpon2] at h2
          | loc f o =>
            have h4 := h'.2.2 w hw
            generalize (execOp a.eval op).run P w = r at *
            cases r with
            | ok n w' =>
              cases n <;> simp only [quietUpon2, locUpon] at h2 h4
              case value u => rw [h2.1] at h4; exact absurd h4.2.symm (alloc_ne _ _)
            | halt x w' => simp only [quietUpon2] at h2
          | call f args =>
            have h4 := h'.2.2.2 w hw
            generalize (execOp a.eval op).run P w = r at *
            cases r with
            | ok n w' =>
              cases n <;> simp only [quietUpon2, callUpon3] at h2 h4
              case enter f' args' =>
                obtain ⟨_, e, _, A, hA, _⟩ := h4
                rw [e, hA] at h2; cases h2.2.1
            | halt x w' => simp only [quietUpon2] at h2
        | loc f o =>
          have h2 := h.2.2 w hw
          cases s' with
          | sto t g o => exact absurd ⟨t, g, o, rfl⟩ hst'
          | quiet v' =>
            have h4 := (on v' h').2
            generalize (execOp a.eval op).run P w = r at *
            cases r with
            | ok n w' =>
              cases n <;> simp only [quietUpon2, locUpon] at h2 h4
              case value u => rw [h4.1] at h2; exact absurd h2.2.symm (alloc_ne _ _)
            | halt x w' => simp only [locUpon] at h2
          | loc f' o' =>
            have h4 := h'.2.2 w hw
            generalize (execOp a.eval op).run P w = r at *
            cases r with
            | ok n w' =>
              cases n <;> simp only [locUpon] at h2 h4
              case value u =>
                have e1 := Form.at_inj (h2.1.symm.trans h4.1)
                have e2 := alloc_inj _ (h2.2.symm.trans h4.2)
                rw [e1, e2]
            | halt x w' => simp only [locUpon] at h2
          | call f' args =>
            have h4 := h'.2.2.2 w hw
            generalize (execOp a.eval op).run P w = r at *
            cases r with
            | ok n w' => cases n <;> simp only [locUpon, callUpon3] at h2 h4
            | halt x w' => simp only [locUpon] at h2
        | call f args =>
          have h2 := h.2.2.2 w hw
          cases s' with
          | sto t g o => exact absurd ⟨t, g, o, rfl⟩ hst'
          | quiet v' =>
            have h4 := (on v' h').2
            generalize (execOp a.eval op).run P w = r at *
            cases r with
            | ok n w' =>
              cases n <;> simp only [quietUpon2, callUpon3] at h2 h4
              case enter f' args' =>
                obtain ⟨_, e, _, A, hA, _⟩ := h2
                rw [e, hA] at h4; cases h4.2.1
            | halt x w' => simp only [callUpon3] at h2
          | loc f' o' =>
            have h4 := h'.2.2 w hw
            generalize (execOp a.eval op).run P w = r at *
            cases r with
            | ok n w' => cases n <;> simp only [locUpon, callUpon3] at h2 h4
            | halt x w' => simp only [callUpon3] at h2
          | call f' args' =>
            have h4 := h'.2.2.2 w hw
            generalize (execOp a.eval op).run P w = r at *
            cases r with
            | ok n w' =>
              cases n <;> simp only [callUpon3] at h2 h4
              case enter f1 args1 => rw [← h2.2.1, ← h2.2.2.1, ← h4.2.1, ← h4.2.2.1]
            | halt x w' => simp only [callUpon3] at h2

theorem wp_of_holds3 {op : Oper} {i : Nat} {a : Act} {Γ : Made} {Φ : Chain} {s : Spec3} {K : Made → Chain → Act → Prop} {K' : Act → World → Prop} {Q' : Exit → Act → World → Prop} {w : World} (hC : Cls3 w0 S Γ Φ w)
    (hi : ops[i]? = some op) (h : ∀ Γ' Φ' a' w', Cls3 w0 S Γ' Φ' w' → K Γ' Φ' a' → K' a' w') (hh : Holds3 P T ops w0 S M N md i op a Γ Φ s) (ha : After3 T w0 S M N md i op K Γ Φ a s) : wpOp P ops Q' i K' a w := by
  unfold wpOp
  simp only [hi]
  cases s with
  | quiet v =>
    have ha : K Γ Φ (a.put op.dst v) := ha v .nop ⟨rfl, rfl⟩
    rcases hh with ⟨h1, _, h2⟩ | ⟨h1, rfl⟩
    · rw [h1, if_pos rfl]
      refine .inl ?_
      have h2 := h2 w hC.for
      unfold Oper.wp
      generalize (execOp a.eval op).run P w = r at *
      cases r with
      | ok n w' =>
        cases n <;> simp only [quietUpon2] at h2 <;> simp only [Oper.upon]
        case value u => obtain ⟨rfl, rfl⟩ := h2; exact h _ _ _ _ hC ha
        case skip => obtain ⟨rfl, rfl⟩ := h2; exact h _ _ _ _ hC ha
        case enter f args =>
          obtain ⟨rfl, _, _, hc⟩ := h2
          exact hc.mono fun e w'' ⟨he, hb⟩ => by subst he; exact h _ _ _ _ (hC.later hb) ha
      | halt x w' => simp only [quietUpon2] at h2
    · rw [h1, if_neg (by decide)]
      exact h _ _ _ _ hC ha
  | loc f o =>
    rw [hh.1, if_pos rfl]
    refine .inl ?_
    have h2 := hh.2.2 w hC.for
    unfold Oper.wp
    generalize (execOp a.eval op).run P w = r at *
    cases r with
    | ok n w' =>
      cases n <;> simp only [locUpon] at h2 <;> simp only [Oper.upon]
      case value u => obtain ⟨rfl, rfl⟩ := h2; exact h _ _ _ _ (hC.upd_loc i o) (ha _ (.set i w.heap.size o) ⟨w.heap.size, rfl, rfl⟩)
    | halt x w' => simp only [locUpon] at h2
  | call f args =>
    rw [hh.1, if_pos rfl]
    refine .inl ?_
    have h2 := hh.2.2.2 w hC.for
    unfold Oper.wp
    generalize (execOp a.eval op).run P w = r at *
    cases r with
    | ok n w' =>
      cases n <;> simp only [callUpon3] at h2 <;> simp only [Oper.upon]
      case enter f' args' =>
        obtain ⟨rfl, rfl, rfl, A, hA, hc⟩ := h2
        exact hc.mono fun e w'' ⟨v, he, hp, hb⟩ => by subst he; exact h _ _ _ _ (hC.upd_call hb) (ha _ (.next _ w'') ⟨A, _, w'', hA, hC.for, hp, hb, rfl⟩)
    | halt x w' => simp only [callUpon3] at h2
  | sto t g o =>
    obtain ⟨h1, _, _, ⟨o', ho⟩, h2⟩ := hh
    rw [h1, if_pos rfl]
    refine .inl ?_
    have h2 := h2 w hC.for
    unfold Oper.wp
    generalize (execOp a.eval op).run P w = r at *
    cases r with
    | ok n w' =>
      cases n <;> simp only [stoUpon] at h2 <;> simp only [Oper.upon]
      case value u => obtain ⟨rfl, rfl⟩ := h2; exact h _ _ _ _ (hC.upd_sto t g o o' ho) (ha _ (.set t g o) ⟨rfl, rfl⟩)
      case skip => subst h2; exact h _ _ _ _ (hC.upd_sto t g o o' ho) (ha _ (.set t g o) ⟨rfl, rfl⟩)
    | halt x w' => simp only [stoUpon] at h2

def sOp3 (P : Program) (T : Posts) (ops : Array Oper) (w0 : World) (S : Nat → Prop) (M : List Nat) (N : Nat → Option Nat) (md : Region.Mode) (i : Nat) (K : Made → Chain → Act → Prop) (Γ : Made) (Φ : Chain) (a : Act) : Prop :=
  ∀ o, ops[i]? = some o → ∃ s, Holds3 P T ops w0 S M N md i o a Γ Φ s ∧ After3 T w0 S M N md i o K Γ Φ a s
def NE3 (w0 : World) (S : Nat → Prop) (Γ : Made) (Φ : Chain) : Prop := ∃ w, Cls3 w0 S Γ Φ w
def wpAnyB3 (P : Program) (T : Posts) (md : Region.Mode) (ops : Array Oper) (w0 : World) (S : Nat → Prop) (M : List Nat) (N : Nat → Option Nat) (n : Nat) (L : Array Bool → Made → Chain → Act → Prop) : Nat → Array Bool → Made → Chain → Act → Prop
  | 0, listed, Γ, Φ, a => NE3 w0 S Γ Φ → L listed Γ Φ a
  | f + 1, listed, Γ, Φ, a => NE3 w0 S Γ Φ →
    Region.ready md ops listed ≠ [] ∧ ∀ i ∈ Region.ready md ops listed, i < n ∧ sOp3 P T ops w0 S M N md i (wpAnyB3 P T md ops w0 S M N n L f (listed.setIfInBounds i true)) Γ Φ a

theorem wpAny_of_headB3 {n g : Nat} {L : Array Bool → Made → Chain → Act → Prop} {Q' : Exit → Act → World → Prop} (hL : ∀ listed Γ Φ a w, Cls3 w0 S Γ Φ w → L listed Γ Φ a → wpAny P md ops Q' g listed a w) :
    ∀ (f : Nat) (listed : Array Bool) (Γ : Made) (Φ : Chain) (a : Act) (w : World), Cls3 w0 S Γ Φ w → wpAnyB3 P T md ops w0 S M N n L f listed Γ Φ a → wpAny P md ops Q' (f + g) listed a w
  | 0, listed, Γ, Φ, a, w, hC, h => by rw [Nat.zero_add]; exact hL _ _ _ _ _ hC (h ⟨w, hC⟩)
  | f + 1, listed, Γ, Φ, a, w, hC, h => by
    rw [show f + 1 + g = (f + g) + 1 by omega]
    have h := h ⟨w, hC⟩
    refine ⟨fun h0 => absurd h0 h.1, fun i hi => ?_⟩
    obtain ⟨o, ho⟩ := ops_ready hi
    obtain ⟨s, hs, ha⟩ := (h.2 i hi).2 o ho
    exact wp_of_holds3 hC ho (fun Γ' Φ' a' w' hC' h' => wpAny_of_headB3 hL f _ Γ' Φ' a' w' hC' h') hs ha

/-- what an outcome of operation i does -/
def Does (M : List Nat) (N : Nat → Option Nat) (i : Nat) (Γ : Made) (d : Dl) : Prop :=
  d = .nop ∨ (∃ g o, d = .set i g o) ∨ (∃ t g o o', d = .set t g o ∧ N t = some i ∧ Γ t = some (g, o')) ∨ (∃ w1 w2, d = .next w1 w2 ∧ i ∈ M)
theorem does_of {i : Nat} {op : Oper} {a : Act} {Γ : Made} {Φ : Chain} {s : Spec3} {v : Value} {d : Dl} (h : Holds3 P T ops w0 S M N md i op a Γ Φ s) (ho : Out3 T w0 S M N md i op Γ Φ s v d) : Does M N i Γ d := by
  cases s with
  | quiet u => exact .inl ho.2
  | loc f o => obtain ⟨g, _, rfl⟩ := ho; exact .inr (.inl ⟨g, o, rfl⟩)
  | call f args => obtain ⟨A, w1, w2, _, _, _, _, rfl⟩ := ho; exact .inr (.inr (.inr ⟨w1, w2, rfl, h.2.2.1⟩))
  | sto t g o =>
    obtain ⟨_, hn, _, ⟨o', hg⟩, _⟩ := h
    obtain ⟨_, rfl⟩ := ho
    exact .inr (.inr (.inl ⟨t, g, o, o', rfl, hn, hg⟩))
theorem upd_other {Γ : Made} {t m g : Nat} {o : Obj} (h : m ≠ t) : (Γ.upd t g o) m = Γ m := by unfold Made.upd; rw [if_neg h]

theorem clsFor_d {i j : Nat} {oj : Oper} {Γ : Made} {Φ : Chain} {d : Dl} (hd : Does M N i Γ d) (hw : ¬ waits md oj i) (hij : j ≠ i) (hM : ¬ (i ∈ M ∧ j ∈ M)) (w : World) :
    ClsFor3 w0 S M N md j oj (d.g Γ) (d.p S Φ) w ↔ ClsFor3 w0 S M N md j oj Γ Φ w := by
  have key : ∀ t g o, (t = i ∨ N t = some i) → (ClsFor3 w0 S M N md j oj (Γ.upd t g o) Φ w ↔ ClsFor3 w0 S M N md j oj Γ Φ w) := fun t g o ht => by
    unfold ClsFor3
    refine and_congr_right fun _ => and_congr_left fun _ => forall_congr' fun m => forall_congr' fun g' => forall_congr' fun o' => ?_
    by_cases hmt : m = t
    · subst hmt
      have : ¬ vis md N oj j m := fun hv => by
        rcases ht with rfl | ht
        · exact hw hv.1
        · rcases hv.2 i ht with h | h
          · exact hij h
          · exact hw h
      exact ⟨fun _ hv => absurd hv this, fun _ hv => absurd hv this⟩
    · rw [upd_other hmt]
  rcases hd with rfl | ⟨g, o, rfl⟩ | ⟨t, g, o, o', rfl, ht, _⟩ | ⟨w1, w2, rfl, hi⟩
  · exact Iff.rfl
  · exact key i g o (.inl rfl)
  · exact key t g o (.inr ht)
  · have hj : j ∉ M := fun h => hM ⟨hi, h⟩
    show (_ ∧ _ ∧ (j ∈ M → _)) ↔ (_ ∧ _ ∧ (j ∈ M → _))
    exact and_congr_right fun _ => and_congr_right fun _ => ⟨fun _ h => absurd h hj, fun _ h => absurd h hj⟩
theorem p_same {i j : Nat} {Γ : Made} {Φ : Chain} {d : Dl} (hd : Does M N i Γ d) (hM : ¬ (i ∈ M ∧ j ∈ M)) (hj : j ∈ M) : d.p S Φ = Φ := by
  rcases hd with rfl | ⟨g, o, rfl⟩ | ⟨t, g, o, o', rfl, ht, _⟩ | ⟨w1, w2, rfl, hi⟩
  · rfl
  · rfl
  · rfl
  · exact absurd ⟨hi, hj⟩ hM
theorem holds_d {i j : Nat} {oj : Oper} {a : Act} {Γ : Made} {Φ : Chain} {d : Dl} {s : Spec3} (hd : Does M N i Γ d) (hw : ¬ waits md oj i) (hij : j ≠ i) (hM : ¬ (i ∈ M ∧ j ∈ M)) :
    Holds3 P T ops w0 S M N md j oj a (d.g Γ) (d.p S Φ) s ↔ Holds3 P T ops w0 S M N md j oj a Γ Φ s := by
  have hc := fun w => clsFor_d (w0 := w0) (S := S) (Φ := Φ) hd hw hij hM w
  cases s with
  | quiet v => unfold Holds3; simp only [hc]
  | loc f o => unfold Holds3; simp only [hc]
  | call f args =>
    unfold Holds3
    simp only [hc]
    refine and_congr_right fun _ => and_congr_right fun _ => and_congr_right fun hj => ?_
    rw [p_same hd hM hj]
  | sto t g o =>
    unfold Holds3
    simp only [hc]
    refine and_congr_right fun _ => and_congr_right fun hn => and_congr_right fun hwt => and_congr_left fun _ => ?_
    have : (d.g Γ) t = Γ t := by
      rcases hd with rfl | ⟨g, o, rfl⟩ | ⟨t', g, o, o', rfl, ht, _⟩ | ⟨w1, w2, rfl, hi⟩
      · rfl
      · exact upd_other (fun e => hw (e ▸ hwt))
      · exact upd_other (fun e => hij (Option.some.inj ((e ▸ hn).symm.trans ht)))
      · rfl
    rw [this]
theorem out_d {i j : Nat} {oj : Oper} {a : Act} {Γ : Made} {Φ : Chain} {d e : Dl} {s : Spec3} {u : Value} (hd : Does M N i Γ d) (hw : ¬ waits md oj i) (hij : j ≠ i) (hM : ¬ (i ∈ M ∧ j ∈ M)) (hs : Holds3 P T ops w0 S M N md j oj a Γ Φ s) :
    Out3 T w0 S M N md j oj (d.g Γ) (d.p S Φ) s u e ↔ Out3 T w0 S M N md j oj Γ Φ s u e := by
  have hc := fun w => clsFor_d (w0 := w0) (S := S) (Φ := Φ) hd hw hij hM w
  cases s with
  | quiet v => exact Iff.rfl
  | loc f o => exact Iff.rfl
  | call f args =>
    unfold Out3
    simp only [hc]
    rw [p_same hd hM hs.2.2.1]
  | sto t g o => exact Iff.rfl
theorem comm_g {i j : Nat} {Γ : Made} {d e : Dl} (hij : i ≠ j) (hi : Γ i = none) (hj : Γ j = none) (hd : Does M N i Γ d) (he : Does M N j Γ e) : e.g (d.g Γ) = d.g (e.g Γ) := by
  have none_some : ∀ {m : Nat} {x y : Nat × Obj}, Γ m = none → Γ m = some x → False := fun h1 h2 => by rw [h1] at h2; cases h2
  rcases hd with rfl | ⟨g, o, rfl⟩ | ⟨t, g, o, o', rfl, ht, hg⟩ | ⟨w1, w2, rfl, _⟩ <;>
  rcases he with rfl | ⟨g2, o2, rfl⟩ | ⟨t2, g2, o2, o2', rfl, ht2, hg2⟩ | ⟨w3, w4, rfl, _⟩ <;> try rfl
  · exact Made.upd_comm Γ hij _ _ _ _
  · exact Made.upd_comm Γ (fun e => by rw [← e, hi] at hg2; cases hg2) _ _ _ _
  · exact Made.upd_comm Γ (fun e => by rw [e, hj] at hg; cases hg) _ _ _ _
  · exact Made.upd_comm Γ (fun e => hij (Option.some.inj ((e ▸ ht).symm.trans ht2))) _ _ _ _
theorem comm_p {i j : Nat} {Γ : Made} {Φ : Chain} {d e : Dl} (hM : ¬ (i ∈ M ∧ j ∈ M)) (hd : Does M N i Γ d) (he : Does M N j Γ e) : e.p S (d.p S Φ) = d.p S (e.p S Φ) := by
  rcases hd with rfl | ⟨g, o, rfl⟩ | ⟨t, g, o, o', rfl, ht, hg⟩ | ⟨w1, w2, rfl, h1⟩ <;>
  rcases he with rfl | ⟨g2, o2, rfl⟩ | ⟨t2, g2, o2, o2', rfl, ht2, hg2⟩ | ⟨w3, w4, rfl, h2⟩ <;> try rfl
  exact absurd ⟨h1, h2⟩ hM

theorem NE3_out {Γ : Made} {Φ : Chain} {i : Nat} {op : Oper} {a : Act} {s : Spec3} (hs : Holds3 P T ops w0 S M N md i op a Γ Φ s) (h : NE3 w0 S Γ Φ) : ∃ v d, Out3 T w0 S M N md i op Γ Φ s v d ∧ NE3 w0 S (d.g Γ) (d.p S Φ) := by
  obtain ⟨w, hw⟩ := h
  cases s with
  | quiet v => exact ⟨v, .nop, ⟨rfl, rfl⟩, w, hw⟩
  | loc f o => exact ⟨_, .set i w.heap.size o, ⟨w.heap.size, rfl, rfl⟩, _, hw.upd_loc i o⟩
  | call f args =>
    have h2 := hs.2.2.2 w hw.for
    generalize (execOp a.eval op).run P w = r at *
    cases r with
    | ok n w' =>
      cases n <;> simp only [callUpon3] at h2
      case enter f' args' =>
        obtain ⟨rfl, rfl, rfl, A, hA, hc⟩ := h2
        obtain ⟨e, w'', fr, ⟨v, he, hp, hb⟩, _⟩ := hc []
        exact ⟨v, .next _ w'', ⟨A, _, w'', hA, hw.for, hp, hb, rfl⟩, w'', hw.upd_call hb⟩
    | halt x w' => simp only [callUpon3] at h2
  | sto t g o =>
    obtain ⟨_, _, _, ⟨o', ho⟩, _⟩ := hs
    exact ⟨undef, .set t g o, ⟨rfl, rfl⟩, _, hw.upd_sto t g o o' ho⟩

open Classical in
/-- the later world with the blocks of U as the first one has them -/
theorem overlay (U : Nat → Prop) (w1 w : World) (h1 : ∀ b, U b → b < w1.heap.size) (h2 : ∀ b, U b → b < w.heap.size) :
    ∃ u : World, u.os = w.os ∧ u.tape = w.tape ∧ u.output = w.output ∧ u.heap.size = w.heap.size ∧ (∀ b, U b → u.heap[b]? = w1.heap[b]?) ∧ ∀ b, ¬ U b → u.heap[b]? = w.heap[b]? := by
  refine ⟨{ w with heap := Array.ofFn (n := w.heap.size) fun i => if h : U i.1 then w1.heap[i.1]'(h1 _ h) else w.heap[i.1]'i.2 }, rfl, rfl, rfl, by simp, fun b hb => ?_, fun b hb => ?_⟩
  · simp [h2 b hb, hb, h1 b hb]
  · by_cases hl : b < w.heap.size
    · simp [hl, hb]
    · simp [hl]

theorem NE3_back {Γ : Made} {Φ : Chain} {j : Nat} {op : Oper} {a : Act} {s : Spec3} {v : Value} {e : Dl} (hs : Holds3 P T ops w0 S M N md j op a Γ Φ s) (ho : Out3 T w0 S M N md j op Γ Φ s v e) (hj : Γ j = none)
    (hst : ∀ u u' : World, (∀ b, S b ∨ Φ.own b → u'.heap[b]? = u.heap[b]?) → Φ.phi u → Φ.phi u') (h : NE3 w0 S (e.g Γ) (e.p S Φ)) : NE3 w0 S Γ Φ := by
  obtain ⟨w, hw⟩ := h
  cases s with
  | quiet u => obtain ⟨_, rfl⟩ := ho; exact ⟨w, hw⟩
  | loc f o =>
    obtain ⟨g, _, rfl⟩ := ho
    have get : ∀ m g1 o1, Γ m = some (g1, o1) → (Γ.upd j g o) m = some (g1, o1) := fun m g1 o1 hm => by
      rw [upd_other (fun e => by rw [e, hj] at hm; cases hm)]; exact hm
    exact ⟨w, hw.fr, hw.old, fun m g1 o1 hm => hw.made m g1 o1 (get _ _ _ hm), fun m k g1 o1 o2 hm hk => hw.apart m k g1 o1 o2 (get _ _ _ hm) (get _ _ _ hk), hw.phi, hw.stab, hw.lies, fun m g1 o1 hm => hw.free m g1 o1 (get _ _ _ hm)⟩
  | sto t g o =>
    obtain ⟨_, rfl⟩ := ho
    obtain ⟨_, _, _, ⟨o', hg⟩, _⟩ := hs
    have := hw.upd_sto t g o' o (by show (Γ.upd t g o) t = _; unfold Made.upd; rw [if_pos rfl])
    have e : (Dl.set t g o).g Γ = Γ.upd t g o := rfl
    have e2 : ((Γ.upd t g o).upd t g o') = Γ := by
      funext m
      unfold Made.upd
      by_cases hm : m = t
      · rw [if_pos hm, hm, hg]
      · rw [if_neg hm, if_neg hm]
    rw [e, e2] at this
    exact ⟨_, this⟩
  | call f args =>
    obtain ⟨A, w1, w2, _, hc, _, hm, rfl⟩ := ho
    obtain ⟨hphi, hown⟩ := hc.2.2 hs.2.2.1
    obtain ⟨u, e1, e2, e3, e4, e5, e6⟩ := overlay (fun b => S b ∨ Φ.own b) w1 w (fun b hb => by
      rcases hb with h | h
      · exact Nat.lt_of_lt_of_le (hw.old b h) hc.1.size
      · exact (hown b h).2) (fun b hb => by
      rcases hb with h | h
      · exact Nat.lt_of_lt_of_le (hw.old b h) hw.fr.size
      · exact (hw.lies b (.inl h)).2)
    have off : ∀ m g o, Γ m = some (g, o) → ¬ (S g ∨ Φ.own g) := fun m g o hm hU => by
      rcases hU with h | h
      · exact absurd (hw.old _ h) (by have := (hw.made m g o hm).1; omega)
      · exact hw.free m g o hm (.inl h)
    refine ⟨u, ⟨e1.trans hw.fr.os, e2.trans hw.fr.tape, e3.trans hw.fr.output, by rw [e4]; exact hw.fr.size, fun b hb hS => ?_⟩, hw.old, fun m g o hm => ⟨(hw.made m g o hm).1, ?_⟩, hw.apart, hst w1 u e5 hphi, hst, fun b hb => ⟨(hown b hb).1, by rw [e4]; exact (hw.lies b (.inl hb)).2⟩, fun m g o hm hU => off m g o hm (.inr hU)⟩
    · rw [e6 b (fun hU => by rcases hU with h | h; exact hS h; exact absurd (hown b h).1 (by omega))]
      exact hw.fr.block b hb hS
    · rw [e6 g (off m g o hm)]
      exact (hw.made m g o hm).2

theorem dg_none {i k : Nat} {Γ : Made} {d : Dl} (hd : Does M N i Γ d) (hk : k ≠ i) (h : Γ k = none) : (d.g Γ) k = none := by
  rcases hd with rfl | ⟨g, o, rfl⟩ | ⟨t, g, o, o', rfl, ht, hg⟩ | ⟨w1, w2, rfl, _⟩
  · exact h
  · show (Γ.upd i g o) k = none
    rw [upd_other hk]; exact h
  · show (Γ.upd t g o) k = none
    rw [upd_other (fun e => by rw [← e, h] at hg; cases hg)]; exact h
  · exact h
theorem dp_stab {Φ : Chain} {d : Dl} (h : ∀ u u' : World, (∀ b, S b ∨ Φ.own b → u'.heap[b]? = u.heap[b]?) → Φ.phi u → Φ.phi u') :
    ∀ u u' : World, (∀ b, S b ∨ (d.p S Φ).own b → u'.heap[b]? = u.heap[b]?) → (d.p S Φ).phi u → (d.p S Φ).phi u' := by
  cases d with
  | nop => exact h
  | set t g o => exact h
  | next w1 w2 =>
    intro u u' h1 hp b hb
    exact (h1 b (by rcases hb with h | h | h; exact .inl h; exact .inr (.inl h); exact .inr (.inr h))).trans (hp b hb)
theorem holds_a {i : Nat} {op : Oper} {a a' : Act} {Γ : Made} {Φ : Chain} {s : Spec3} (h : Holds3 P T ops w0 S M N md i op a Γ Φ s) (he : execOp a'.eval op = execOp a.eval op)
    (hw : Region.wanted op (yielded ops a'.tmps) = Region.wanted op (yielded ops a.tmps)) : Holds3 P T ops w0 S M N md i op a' Γ Φ s := by
  cases s <;> · unfold Holds3 at *; rw [he, hw]; exact h

theorem wpAnyB3_first {n i : Nat} {oi : Oper} {s : Spec3} {L : Array Bool → Made → Chain → Act → Prop} (hN : ∀ t t' k, N t = some k → N t' = some k → t = t') (hi : ops[i]? = some oi) (hsel : ∀ (j : Nat) (o : Oper) cs b, ops[j]? = some o → o.op ≠ .select cs b)
    (hlt : ∀ (listed : Array Bool) (i j : Nat), HeadInv md ops n listed → i < n → listed.getD i true = false → j ∈ Region.ready md ops listed → j < n) (hin : i < n)
    (hdone : ∀ listed Γ Φ a, L listed Γ Φ a → ∀ j ∈ Region.ready md ops listed, n ≤ j)
    (hMM : ∀ listed, HeadInv md ops n listed → ∀ i j, i ∈ Region.ready md ops listed → j ∈ Region.ready md ops listed → i ≠ j → ¬ (i ∈ M ∧ j ∈ M)) :
    ∀ (f : Nat) (listed : Array Bool) (Γ : Made) (Φ : Chain) (a : Act), HeadInv md ops n listed → (∀ k, listed.getD k true = false → Γ k = none) →
      (∀ j oj, ops[j]? = some oj → j ≠ i → listed.getD j true = false → (∀ e ∈ oj.after, Region.binds md e = true → e.on ≠ i) → oi.apart ops oj = true) →
      i ∈ Region.ready md ops listed → Holds3 P T ops w0 S M N md i oi a Γ Φ s →
      After3 T w0 S M N md i oi (wpAnyB3 P T md ops w0 S M N n L f (listed.setIfInBounds i true)) Γ Φ a s → wpAnyB3 P T md ops w0 S M N n L (f + 1) listed Γ Φ a := by
  intro f
  induction f with
  | zero =>
    intro listed Γ Φ a inv hΓ _ hr hy H ne
    have hun := (mem_ready.1 hr).1
    refine ⟨fun h => (by rw [h] at hr; cases hr), fun j hj => ?_⟩
    have hjn : j < n := hlt listed i j inv hin hun hj
    refine ⟨hjn, ?_⟩
    by_cases hji : j = i
    · subst hji; exact fun o ho => by
        have : o = oi := Option.some.inj (ho.symm.trans hi)
        subst this
        exact ⟨s, hy, H⟩
    · obtain ⟨v, d, ho, hg⟩ := NE3_out hy ne
      have := hdone _ _ _ _ ((H v d ho) hg) j (ready_mono hj hji)
      omega
  | succ f ih =>
    intro listed Γ Φ a inv hΓ hfree hr hy H ne
    have hun := (mem_ready.1 hr).1
    refine ⟨fun h => (by rw [h] at hr; cases hr), fun j hj => ?_⟩
    have hjn : j < n := hlt listed i j inv hin hun hj
    refine ⟨hjn, ?_⟩
    by_cases hji : j = i
    · subst hji; exact fun o ho => by
        have : o = oi := Option.some.inj (ho.symm.trans hi)
        subst this
        exact ⟨s, hy, H⟩
    · intro oj hoj
      obtain ⟨hjun, oj', hoj', hall⟩ := mem_ready.1 hj
      have e1 : oj' = oj := Option.some.inj (hoj'.symm.trans hoj)
      subst e1
      have hjw : ¬ waits md oj' i := waits_unready hj hoj hun
      have hiw : ¬ waits md oi j := waits_unready hr hi hjun
      have hnm : ¬ (i ∈ M ∧ j ∈ M) := hMM listed inv i j hr hj (Ne.symm hji)
      have hnm' : ¬ (j ∈ M ∧ i ∈ M) := fun h => hnm ⟨h.2, h.1⟩
      have hap := hfree j oj' hoj hji hjun (fun e he hb heq => hjw ⟨e, he, hb, heq⟩)
      obtain ⟨p1, p2, p3⟩ := Oper.apart_spec hap
      have hsj := fun cs b => hsel j oj' cs b hoj
      have hsi := fun cs b => hsel i oi cs b hi
      have hGi := hΓ i hun
      have hGj := hΓ j hjun
      have each : ∀ v d, Out3 T w0 S M N md i oi Γ Φ s v d → NE3 w0 S (d.g Γ) (d.p S Φ) → ∃ t, Holds3 P T ops w0 S M N md j oj' a Γ Φ t ∧ ∀ u e, Out3 T w0 S M N md j oj' Γ Φ t u e → wpAnyB3 P T md ops w0 S M N n L f ((listed.setIfInBounds i true).setIfInBounds j true) (e.g (d.g Γ)) (e.p S (d.p S Φ)) ((a.put oi.dst v).put oj'.dst u) := by
        intro v d ho hg
        have hd := does_of hy ho
        obtain ⟨t, h1, h2⟩ := ((H v d ho) hg).2 j (ready_mono hj hji) |>.2 oj' hoj
        have h1' := (holds_d hd hjw hji hnm).1 (holds_a h1 (execOp_put oj' hsj a oi.dst _ p1).symm (wanted_put oj' a oi.dst _ p1).symm)
        exact ⟨t, h1', fun u e hu => h2 u e ((out_d hd hjw hji hnm h1').2 hu)⟩
      obtain ⟨v0, d0, ho0, hg0⟩ := NE3_out hy ne
      obtain ⟨t, ht, ht2⟩ := each v0 d0 ho0 hg0
      refine ⟨t, ht, fun u e hu => ?_⟩
      have he := does_of ht hu
      have hfree' : ∀ k ok, ops[k]? = some ok → k ≠ i → (listed.setIfInBounds j true).getD k true = false →
          (∀ e ∈ ok.after, Region.binds md e = true → e.on ≠ i) → oi.apart ops ok = true := fun k ok hk hki hun hno => by
        refine hfree k ok hk hki ?_ hno
        by_cases hjk : j = k
        · subst hjk; exact hjun
        · rw [getD_set_ne true hjk] at hun; exact hun
      have hjs : j < listed.size := by
        rcases Nat.lt_or_ge j listed.size with h | h
        · exact h
        · rw [inv.size] at h; have := (Array.getElem?_eq_some_iff.1 hoj).1; omega
      have hΓ' : ∀ k, (listed.setIfInBounds j true).getD k true = false → (e.g Γ) k = none := fun k hk => by
        by_cases hjk : j = k
        · subst hjk; simp [hjs] at hk
        · rw [getD_set_ne true hjk] at hk
          exact dg_none he (Ne.symm hjk) (hΓ k hk)
      have hy' := (holds_d he hiw (Ne.symm hji) hnm').2 hy
      refine ih (listed.setIfInBounds j true) (e.g Γ) (e.p S Φ) (a.put oj'.dst u) (inv.set hj hjn) hΓ' hfree' (ready_mono hr (Ne.symm hji))
        (holds_a hy' (execOp_put oi hsi a oj'.dst _ p3) (wanted_put oi a oj'.dst _ p3)) (fun v d ho' => ?_)
      have ho := (out_d he hiw (Ne.symm hji) hnm' hy).1 ho'
      have hd := does_of hy ho
      have hgo : NE3 w0 S (d.g (e.g Γ)) (d.p S (e.p S Φ)) → wpAnyB3 P T md ops w0 S M N n L f ((listed.setIfInBounds j true).setIfInBounds i true) (d.g (e.g Γ)) (d.p S (e.p S Φ)) ((a.put oj'.dst u).put oi.dst v) := by
        intro hne
        rw [← comm_g (Ne.symm hji) hGi hGj hd he, ← comm_p hnm hd he] at hne ⊢
        have hne' : NE3 w0 S (d.g Γ) (d.p S Φ) := NE3_back ((holds_d hd hjw hji hnm).2 ht) ((out_d hd hjw hji hnm ht).2 hu) (dg_none hd hji hGj) (dp_stab (by obtain ⟨w, hw⟩ := ne; exact hw.stab)) hne
        obtain ⟨t', ht', ht2'⟩ := each v d ho hne'
        obtain ⟨w, hw⟩ := ne
        have := Holds3.unique hN hw.for ht' ht
        subst this
        have h3 := ht2' u e hu
        rw [Array.setIfInBounds_comm _ _ hji, ← Act.put_comm a v u p2]
        exact h3
      cases f with
      | zero => exact fun hne => hgo hne hne
      | succ f => exact fun hne => hgo hne hne

/-- each call waits for the one ahead -/
def chainB3 (md : Region.Mode) (ops : Array Oper) : List Nat → Bool
  | a :: b :: l => (match ops[b]? with | some o => o.after.any (fun e => Region.binds md e && e.on == a) | none => false) && chainB3 md ops (b :: l)
  | _ => true
theorem chain_listed {n : Nat} {listed : Array Bool} (inv : HeadInv md ops n listed) : ∀ (l : List Nat) (a : Nat), chainB3 md ops (a :: l) = true → ∀ j ∈ l, (j ∈ Region.ready md ops listed ∨ listed.getD j false = true) → listed.getD a false = true
  | [], a, _, j, hj, _ => by cases hj
  | b :: l, a, h, j, hj, hr => by
    simp only [chainB3, Bool.and_eq_true] at h
    obtain ⟨h1, h2⟩ := h
    have step : (b ∈ Region.ready md ops listed ∨ listed.getD b false = true) → listed.getD a false = true := fun hb => by
      cases hob : ops[b]? with
      | none => rw [hob] at h1; cases h1
      | some o =>
        rw [hob] at h1
        simp only [Array.any_eq_true'] at h1
        obtain ⟨e, he, hb'⟩ := h1
        simp only [Bool.and_eq_true, beq_iff_eq] at hb'
        rw [← hb'.2]
        rcases hb with hb | hb
        · obtain ⟨_, o', ho', hall⟩ := mem_ready.1 hb
          have : o' = o := Option.some.inj (ho'.symm.trans hob)
          subst this
          exact hall e he hb'.1
        · exact inv.closed b o hob hb e he hb'.1
    rcases List.mem_cons.1 hj with rfl | hj
    · exact step hr
    · exact step (.inr (chain_listed inv l b h2 j hj hr))
theorem chain_apart {n : Nat} : ∀ (M : List Nat), chainB3 md ops M = true → ∀ listed, HeadInv md ops n listed → ∀ i j, i ∈ Region.ready md ops listed → j ∈ Region.ready md ops listed → i ≠ j → ¬ (i ∈ M ∧ j ∈ M)
  | [], _, _, _, _, _, _, _, _, h => by cases h.1
  | a :: l, hB, listed, inv, i, j, hi, hj, hij, h => by
    have hB' : chainB3 md ops l = true := by
      cases l with
      | nil => rfl
      | cons b l => simp only [chainB3, Bool.and_eq_true] at hB; exact hB.2
    have no : ∀ k, a ∈ Region.ready md ops listed → k ∈ Region.ready md ops listed → k ∈ l → False := fun k ha hk hl => by
      have := chain_listed inv l a hB k hl (.inl hk)
      rw [getD_both (mem_ready.1 ha).1] at this; cases this
    rcases List.mem_cons.1 h.1 with rfl | h1 <;> rcases List.mem_cons.1 h.2 with rfl | h2
    · exact hij rfl
    · exact no j hi hj h2
    · exact no i hj hi h1
    · exact chain_apart l hB' listed inv i j hi hj hij ⟨h1, h2⟩

def wpLow3 (P : Program) (T : Posts) (ops : Array Oper) (w0 : World) (S : Nat → Prop) (M : List Nat) (N : Nat → Option Nat) (Lq : Made → Chain → Act → Prop) : Nat → List Oper → Made → Chain → Act → Prop
  | _, [], Γ, Φ, a => Lq Γ Φ a
  | k, o :: rest, Γ, Φ, a => ∃ s, Holds3 P T ops w0 S M N .any k o a Γ Φ s ∧ After3 T w0 S M N .any k o (wpLow3 P T ops w0 S M N Lq (k + 1) rest) Γ Φ a s

theorem wpAnyB3_lex {n g : Nat} {Lq : Made → Chain → Act → Prop} (hN : ∀ t t' k, N t = some k → N t' = some k → t = t') (hM : chainB3 .any ops M = true) (hsel : Region.noSelect ops = true) (hlt : ∀ (listed : Array Bool) (i j : Nat), HeadInv .any ops n listed → i < n → listed.getD i true = false → j ∈ Region.ready .any ops listed → j < n) :
    ∀ (l : List Oper) (k : Nat) (listed : Array Bool) (Γ : Made) (Φ : Chain) (a : Act), (∀ j, j < l.length → l[j]? = ops[k + j]?) → k + l.length = n → HeadInv .any ops n listed → (∀ k, listed.getD k true = false → Γ k = none) →
    Region.lexHead .any ops g l.length k listed = true → wpLow3 P T ops w0 S M N Lq k l Γ Φ a →
    wpAnyB3 P T .any ops w0 S M N n (fun listed' Γ' Φ' a' => Region.seqB .any ops g n listed' = true ∧ Lq Γ' Φ' a') l.length listed Γ Φ a
  | [], k, listed, Γ, Φ, a, _, hk, _, _, hB, h => by
    have : k = n := by simpa using hk
    subst this
    exact fun _ => ⟨by simpa [Region.lexHead] using hB, h⟩
  | o :: l, k, listed, Γ, Φ, a, hl, hk, inv, hΓ, hB, h => by
    have h0 : ops[k]? = some o := by simpa using (hl 0 (by simp)).symm
    simp only [List.length_cons, Region.lexHead, Bool.and_eq_true] at hB
    obtain ⟨⟨hr, hf⟩, hB'⟩ := hB
    have hkn : k < n := by simp only [List.length_cons] at hk; omega
    have hr' : k ∈ Region.ready .any ops listed := by simpa using hr
    obtain ⟨s, hy, hK⟩ := h
    refine wpAnyB3_first hN h0 (Region.noSelect_spec hsel) hlt hkn (fun listed' Γ' Φ' a' hL => seqB_ready hL.1) (chain_apart M hM) l.length listed Γ Φ a inv hΓ (Region.free_spec h0 hf) hr' hy (fun v d ho => ?_)
    have hks : k < listed.size := by
      rcases Nat.lt_or_ge k listed.size with h | h
      · exact h
      · rw [inv.size] at h; have := (Array.getElem?_eq_some_iff.1 h0).1; omega
    refine wpAnyB3_lex hN hM hsel hlt l (k + 1) _ _ _ _ (fun j hj => by have := hl (j + 1) (by simp; omega); simpa [Nat.add_assoc, Nat.add_comm 1 j] using this) (by simp only [List.length_cons] at hk; omega) (inv.set hr' hkn) (fun m hm => ?_) hB' (hK v d ho)
    by_cases hkm : k = m
    · subst hkm; simp [hks] at hm
    · rw [getD_set_ne true hkm] at hm
      exact dg_none (does_of hy ho) (Ne.symm hkm) (hΓ m hm)

/-- **One walk serves every order**, with calls that change blocks of S. -/
theorem wp_region_low3 {id : Nat} {Q : Exit → Act → World → Prop} {a : Act} {w : World} {l : List Oper} (T : Posts) (S : Nat → Prop) (M : List Nat) (N : Nat → Option Nat) (n : Nat) (hm : P.follows .mixedOrders = true) (hS : ∀ b, S b → b < w.heap.size)
    (hN : ∀ t t' k, N t = some k → N t' = some k → t = t') (hB : (Region.lexTailB .any l.toArray n && chainB3 .any l.toArray M) = true)
    (h : wpLow3 P T l.toArray w S M N (fun Γ Φ a' => ∀ w', Cls3 w S Γ Φ w' → wpList P l.toArray Q (l.drop n) a' w') 0 (l.take n) (fun _ => none) (Chain.first S w) a) : (Code.region id l.toArray true).wp P Q a w := by
  simp only [Region.lexTailB, Bool.and_eq_true, decide_eq_true_eq] at hB
  obtain ⟨⟨⟨⟨⟨hsel, hn⟩, hs⟩, hc⟩, hlex⟩, hM⟩ := hB
  have hn' : n < l.length := by simpa using hn
  have htl : (l.take n).length = n := by simp; omega
  have hdl : (l.drop n).length = l.toArray.size - n := by simp
  have inv0 : HeadInv .any l.toArray n (Array.replicate l.toArray.size false) :=
    ⟨by simp, fun j oj _ hl => (by rw [getD_replicate_false] at hl; cases hl), fun t _ ht => getD_in (by simpa using ht) (getD_replicate_false _ _)⟩
  have hlt : ∀ (listed : Array Bool) (i j : Nat), HeadInv .any l.toArray n listed → i < n → listed.getD i true = false → j ∈ Region.ready .any l.toArray listed → j < n := fun listed i j inv hin hun hj => by
    rcases Nat.lt_or_ge j n with h | h
    · exact h
    · exact absurd hj (tail_waits hs hc hn inv _ i rfl hin hun j h)
  have H := wpAnyB3_lex (g := l.toArray.size - n) hN hM hsel hlt (l.take n) 0 _ (fun _ => none) _ a (fun j hj => by
    have hj' : j < n := by rw [htl] at hj; exact hj
    simp [hj']) (by simpa using htl) inv0 (fun _ _ => rfl) (by rw [htl]; exact hlex) h
  refine wp_region_any hm ?_
  have := wpAny_of_headB3 (T := T) (md := .any) (n := n) (ops := l.toArray) (w0 := w) (L := fun listed' Γ' Φ' a' => Region.seqB .any l.toArray (l.toArray.size - n) n listed' = true ∧ ∀ w', Cls3 w S Γ' Φ' w' → wpList P l.toArray Q (l.drop n) a' w') (Q' := Q) (g := l.toArray.size - n) (fun listed Γ Φ a' w' hC hL => by
    have := wpAny_of_seq (md := .any) (Q' := Q) (l.drop n) n listed a' w' (fun j => by simp [List.getElem?_drop]) (by rw [hdl]; exact hL.1) (hL.2 w' hC)
    rwa [hdl] at this) _ _ (fun _ => none) _ _ { w with drawn := w.drawn + 1 } (Cls3.start hS _) H
  rw [htl, show n + (l.toArray.size - n) = l.toArray.size by omega] at this
  exact this
/-- the same of a region in which nothing need come last -/
theorem wp_region_all3 {id : Nat} {Q : Exit → Act → World → Prop} {a : Act} {w : World} {l : List Oper} (T : Posts) (S : Nat → Prop) (M : List Nat) (N : Nat → Option Nat) (hm : P.follows .mixedOrders = true) (hS : ∀ b, S b → b < w.heap.size)
    (hN : ∀ t t' k, N t = some k → N t' = some k → t = t') (hB : ((Region.noSelect l.toArray && Region.lexHead .any l.toArray 0 l.length 0 (Array.replicate l.length false)) && chainB3 .any l.toArray M) = true)
    (h : wpLow3 P T l.toArray w S M N (fun Γ Φ a' => ∀ w', Cls3 w S Γ Φ w' → Q .normal a' w') 0 l (fun _ => none) (Chain.first S w) a) : (Code.region id l.toArray true).wp P Q a w := by
  simp only [Bool.and_eq_true] at hB
  obtain ⟨hB, hM⟩ := hB
  have hsz : l.toArray.size = l.length := by simp
  have inv0 : HeadInv .any l.toArray l.length (Array.replicate l.toArray.size false) :=
    ⟨by simp, fun j oj _ hl => (by rw [getD_replicate_false] at hl; cases hl), fun t h1 h2 => by omega⟩
  have hlt : ∀ (listed : Array Bool) (i j : Nat), HeadInv .any l.toArray l.length listed → i < l.length → listed.getD i true = false → j ∈ Region.ready .any l.toArray listed → j < l.length := fun listed i j inv hin hun hj => by
    obtain ⟨o, ho⟩ := ops_ready hj
    have := (Array.getElem?_eq_some_iff.1 ho).1
    omega
  have H := wpAnyB3_lex (g := 0) hN hM hB.1 hlt l 0 _ (fun _ => none) _ a (fun j hj => by simp) (by simp) inv0 (fun _ _ => rfl) (by rw [hsz]; exact hB.2) h
  refine wp_region_any hm ?_
  have := wpAny_of_headB3 (T := T) (md := .any) (n := l.length) (ops := l.toArray) (w0 := w) (L := fun listed' Γ' Φ' a' => Region.seqB .any l.toArray 0 l.length listed' = true ∧ ∀ w', Cls3 w S Γ' Φ' w' → Q .normal a' w') (Q' := Q) (g := 0) (fun listed Γ Φ a' w' hC hL => by
    have h1 := hL.1
    simp only [Region.seqB, List.isEmpty_iff] at h1
    exact ⟨h1, hL.2 w' hC⟩) _ _ (fun _ => none) _ _ { w with drawn := w.drawn + 1 } (Cls3.start hS _) H
  simpa using this

/-- tables of stores: which operation writes what an operation made -/
def noSto : Nat → Option Nat := fun _ => none
def sto1 (t k : Nat) : Nat → Option Nat := fun i => if i = t then some k else none
theorem noSto_inj : ∀ t t' k, noSto t = some k → noSto t' = some k → t = t' := fun t t' k h => by cases h
theorem sto1_inj (x y : Nat) : ∀ t t' k, sto1 x y t = some k → sto1 x y t' = some k → t = t' := fun t t' k h h' => by
  unfold sto1 at h h'
  split at h <;> split at h' <;> simp_all
theorem noSto_no {k : Nat} : ∀ t, noSto t ≠ some k := fun t h => by cases h
theorem sto1_no {x y k : Nat} (h : y ≠ k) : ∀ t, sto1 x y t ≠ some k := fun t e => by
  unfold sto1 at e
  split at e
  · exact h (Option.some.inj e)
  · cases e
/-- a world that may be there -/
structure Mutd (S : Nat → Prop) (w0 : World) where
  w : World
  h : Mut S w0 w
instance : Nonempty (Mutd S w0) := ⟨⟨w0, Mut.refl _ _⟩⟩
theorem cell_mutd {a : Addr} {v : Value} (h : w0.cell? a = some v) (hS : ¬ S a.block) (p : Mutd S w0) : p.w.cell? a = some v := by
  have hl : a.block < w0.heap.size := by
    rcases Nat.lt_or_ge a.block w0.heap.size with h' | h'
    · exact h'
    · simp [World.cell?, Array.getElem?_eq_none h'] at h
  rw [← h]
  unfold World.cell?
  rw [p.h.block _ hl hS]
def opLow3 (P : Program) (T : Posts) (o : Oper) (a : Act) (S : Nat → Prop) (w0 : World) (K : Act → Prop) : Prop :=
  ∃ v, (∀ p : Mutd S w0, opUpon2 P T p.w v ((execOp a.eval o).run P p.w)) ∧ K (a.put o.dst v)
theorem low3_nil {Lq : Made → Chain → Act → Prop} {k : Nat} {Γ : Made} {Φ : Chain} {a : Act} (h : Lq Γ Φ a) : wpLow3 P T ops w0 S M N Lq k [] Γ Φ a := h
theorem low3_step {Lq : Made → Chain → Act → Prop} {k : Nat} {o : Oper} {rest : List Oper} {Γ : Made} {Φ : Chain} {a : Act} (hn : ∀ t, N t ≠ some k)
    (h : ∀ K : Act → Prop, (∀ a, wpLow3 P T ops w0 S M N Lq (k + 1) rest Γ Φ a → K a) → if Region.wanted o (yielded ops a.tmps) then opLow3 P T o a S w0 K else K (a.put o.dst undef)) : wpLow3 P T ops w0 S M N Lq k (o :: rest) Γ Φ a := by
  have h := h (wpLow3 P T ops w0 S M N Lq (k + 1) rest Γ Φ) (fun _ h => h)
  by_cases hw : Region.wanted o (yielded ops a.tmps) = true
  · rw [if_pos hw] at h
    obtain ⟨v, h1, h2⟩ := h
    refine ⟨.quiet v, .inl ⟨hw, hn, fun w hC => ?_⟩, fun u d ho => by obtain ⟨rfl, rfl⟩ := ho; exact h2⟩
    have := h1 ⟨w, hC.1⟩
    generalize (execOp a.eval o).run P w = r at *
    cases r with
    | ok n w' => cases n <;> exact this
    | halt x w' => exact this
  · rw [if_neg hw] at h
    exact ⟨.quiet undef, .inr ⟨by simpa using hw, rfl⟩, fun u d ho => by obtain ⟨rfl, rfl⟩ := ho; exact h⟩
theorem low3_new {Lq : Made → Chain → Act → Prop} {k : Nat} {o : Oper} {rest : List Oper} {Γ : Made} {Φ : Chain} {a : Act} (obj : Obj) (hn : ∀ t, N t ≠ some k) (hw : Region.wanted o (yielded ops a.tmps) = true)
    (hr : ∀ w, (execOp a.eval o).run P w = .ok (.value (.pointer (some ⟨w.heap.size, 0, none⟩))) (w.alloc obj)) (h : ∀ g : Nat, wpLow3 P T ops w0 S M N Lq (k + 1) rest (Γ.upd k g obj) Φ (a.put o.dst (.pointer (some ⟨g, 0, none⟩)))) : wpLow3 P T ops w0 S M N Lq k (o :: rest) Γ Φ a :=
  ⟨.loc .ptr obj, ⟨hw, hn, fun w _ => by rw [hr w]; exact ⟨rfl, rfl⟩⟩, fun u d ho => by obtain ⟨g, rfl, rfl⟩ := ho; exact h g⟩
theorem low3_slice {Lq : Made → Chain → Act → Prop} {k : Nat} {o : Oper} {rest : List Oper} {Γ : Made} {Φ : Chain} {a : Act} (n c : Nat) (obj : Obj) (hn : ∀ t, N t ≠ some k) (hw : Region.wanted o (yielded ops a.tmps) = true)
    (hr : ∀ w, (execOp a.eval o).run P w = .ok (.value (.slice (some ⟨w.heap.size, 0, none⟩) n c)) (w.alloc obj)) (h : ∀ g : Nat, wpLow3 P T ops w0 S M N Lq (k + 1) rest (Γ.upd k g obj) Φ (a.put o.dst (.slice (some ⟨g, 0, none⟩) n c))) : wpLow3 P T ops w0 S M N Lq k (o :: rest) Γ Φ a :=
  ⟨.loc (.slice n c) obj, ⟨hw, hn, fun w _ => by rw [hr w]; exact ⟨rfl, rfl⟩⟩, fun u d ho => by obtain ⟨g, rfl, rfl⟩ := ho; exact h g⟩
/-- a call whose post is the table's: it may change S and what the chain owns -/
theorem low3_call {Lq : Made → Chain → Act → Prop} {k : Nat} {o : Oper} {rest : List Oper} {Γ : Made} {Φ : Chain} {a : Act} (f : FuncId) (args : Array Value) (A : Array Value → Value → World → World → Prop) (hn : ∀ t, N t ≠ some k) (hk : k ∈ M) (hw : Region.wanted o (yielded ops a.tmps) = true)
    (hr : ∀ w, (execOp a.eval o).run P w = .ok (.enter f args) w) (hT : T f = some A)
    (hc : ∀ w, ClsFor3 w0 S M N .any k o Γ Φ w → Calls P f args w (fun e w'' => ∃ v, e = .returned v ∧ A args v w w'' ∧ Mut (fun b => S b ∨ Φ.own b) w w''))
    (h : ∀ v w1 w2, ClsFor3 w0 S M N .any k o Γ Φ w1 → A args v w1 w2 → Mut (fun b => S b ∨ Φ.own b) w1 w2 → wpLow3 P T ops w0 S M N Lq (k + 1) rest Γ (Φ.next S w1 w2) (a.put o.dst v)) : wpLow3 P T ops w0 S M N Lq k (o :: rest) Γ Φ a :=
  ⟨.call f args, ⟨hw, hn, hk, fun w hC => by rw [hr w]; exact ⟨rfl, rfl, rfl, A, hT, hc w hC⟩⟩, fun u d ho => by
    obtain ⟨A', w1, w2, hA', h1, h2, h3, rfl⟩ := ho
    rw [hT] at hA'; cases hA'
    exact h u w1 w2 h1 h2 h3⟩
/-- a call with one value that reads what is known of the chain, or what the region made -/
theorem low3_reads {Lq : Made → Chain → Act → Prop} {k : Nat} {o : Oper} {rest : List Oper} {Γ : Made} {Φ : Chain} {a : Act} (f : FuncId) (args : Array Value) (v : Value) (hn : ∀ t, N t ≠ some k) (hw : Region.wanted o (yielded ops a.tmps) = true)
    (hr : ∀ w, (execOp a.eval o).run P w = .ok (.enter f args) w) (hT : T f = none) (hi : P.inits.idxOf? f = none)
    (hc : ∀ w, ClsFor3 w0 S M N .any k o Γ Φ w → Calls P f args w (fun e w'' => e = .returned v ∧ Below w.heap.size w w''))
    (h : wpLow3 P T ops w0 S M N Lq (k + 1) rest Γ Φ (a.put o.dst v)) : wpLow3 P T ops w0 S M N Lq k (o :: rest) Γ Φ a :=
  ⟨.quiet v, .inl ⟨hw, hn, fun w hC => by rw [hr w]; exact ⟨rfl, hT, hi, hc w hC⟩⟩, fun u d ho => by obtain ⟨rfl, rfl⟩ := ho; exact h⟩
/-- a store, whole, into a block that the region made -/
theorem low3_sto {Lq : Made → Chain → Act → Prop} {k : Nat} {o : Oper} {rest : List Oper} {Γ : Made} {Φ : Chain} {a : Act} (t g : Nat) (cs cs' : Array Value) (ty : TypeId) (hn : N t = some k) (hw : Region.wanted o (yielded ops a.tmps) = true)
    (hwt : waits .any o t) (hg : Γ t = some (g, .cells cs ty)) (hr : ∀ w, Bk w g cs ty → stoUpon w g (.cells cs' ty) ((execOp a.eval o).run P w))
    (h : wpLow3 P T ops w0 S M N Lq (k + 1) rest (Γ.upd t g (.cells cs' ty)) Φ (a.put o.dst undef)) : wpLow3 P T ops w0 S M N Lq k (o :: rest) Γ Φ a :=
  ⟨.sto t g (.cells cs' ty), ⟨hw, hn, hwt, ⟨_, hg⟩, fun w hC => hr w (hC.2.1 t g _ ⟨hwt, fun m hm => .inl (Option.some.inj (hn.symm.trans hm))⟩ hg).2⟩, fun u d ho => by obtain ⟨rfl, rfl⟩ := ho; exact h⟩
theorem low3_max {Lq : Made → Chain → Act → Prop} {k : Nat} {o : Oper} {rest : List Oper} {Γ : Made} {Φ : Chain} {a : Act} (x y : Operand) (ats : Array TypeId) (hn : ∀ t, N t ≠ some k) (hw : Region.wanted o (yielded ops a.tmps) = true)
    (hop : o.op = Op.call { callee := Callee.builtin Builtin.max, args := #[x, y], argTypes := ats }) (kd : IntKind) (m n : Int) (hx : a.eval x = .int kd m) (hy : a.eval y = .int kd n)
    (h : wpLow3 P T ops w0 S M N Lq (k + 1) rest Γ Φ (a.put o.dst (.int kd (max m n)))) : wpLow3 P T ops w0 S M N Lq k (o :: rest) Γ Φ a := by
  refine ⟨.quiet (.int kd (max m n)), .inl ⟨hw, hn, fun w hC => ?_⟩, fun u d ho => by obtain ⟨rfl, rfl⟩ := ho; exact h⟩
  have e : (if m < n then n else m) = max m n := by split <;> omega
  simp [execOp, hop, resolve, invoke, builtin, hx, hy, Builtin.max_, Builtin.max2, Result.andThen, e, quietUpon2]
theorem low3_min {Lq : Made → Chain → Act → Prop} {k : Nat} {o : Oper} {rest : List Oper} {Γ : Made} {Φ : Chain} {a : Act} (x y : Operand) (ats : Array TypeId) (hn : ∀ t, N t ≠ some k) (hw : Region.wanted o (yielded ops a.tmps) = true)
    (hop : o.op = Op.call { callee := Callee.builtin Builtin.min, args := #[x, y], argTypes := ats }) (kd : IntKind) (m n : Int) (hx : a.eval x = .int kd m) (hy : a.eval y = .int kd n)
    (h : wpLow3 P T ops w0 S M N Lq (k + 1) rest Γ Φ (a.put o.dst (.int kd (min m n)))) : wpLow3 P T ops w0 S M N Lq k (o :: rest) Γ Φ a := by
  refine ⟨.quiet (.int kd (min m n)), .inl ⟨hw, hn, fun w hC => ?_⟩, fun u d ho => by obtain ⟨rfl, rfl⟩ := ho; exact h⟩
  have e : (if n < m then n else m) = min m n := by split <;> omega
  simp [execOp, hop, resolve, invoke, builtin, hx, hy, Builtin.min_, Builtin.min2, Result.andThen, e, quietUpon2]
/-- a cell written, as a whole block written -/
theorem setCell_put {W : World} {g i : Nat} {cs : Array Value} {t : TypeId} {v : Value} (h : W.heap[g]? = some (.cells cs t)) : W.setCell ⟨g, i, none⟩ v = putObj W g (.cells (cs.setIfInBounds i v) t) := by
  have e : (W.setCell ⟨g, i, none⟩ v).heap = (putObj W g (.cells (cs.setIfInBounds i v) t)).heap := by
    simp only [World.setCell, putObj]
    refine Array.ext_getElem? fun j => ?_
    rw [Array.getElem?_modify, Array.getElem?_setIfInBounds]
    by_cases hj : g = j
    · subst hj
      have := (Array.getElem?_eq_some_iff.1 h).1
      rw [if_pos rfl, if_pos rfl, if_pos this, h]
      simp
    · rw [if_neg hj, if_neg hj]
  calc W.setCell ⟨g, i, none⟩ v = { W with heap := (W.setCell ⟨g, i, none⟩ v).heap } := rfl
    _ = putObj W g _ := by rw [e]; rfl
theorem putObj_twice {W : World} {g : Nat} {o o' : Obj} : putObj (putObj W g o) g o' = putObj W g o' := by
  unfold putObj
  simp
theorem putObj_heap {W : World} {g : Nat} {o o' : Obj} (h : W.heap[g]? = some o') : (putObj W g o).heap[g]? = some o := putObj_same (Array.getElem?_eq_some_iff.1 h).1
end
end Go.Proofs.YtghfggfgndgkjaaGreatDoor
