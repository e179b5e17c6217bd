/- client.Push. -/
import Derived.Test.YtlcjkomfjgddeaaGreatDoorM27
set_option linter.unusedVariables false
set_option linter.unusedSimpArgs false
namespace Go.Proofs.YtlcjkomfjgddeaaGreatDoor
open Go Go.RowKit Go.Sort
set_option maxRecDepth 100000
attribute [local go_sem] opLow opUpon opLow2 opUpon2

/-- the number of the last input, or of the last that was acknowledged -/
def lastS (k : Int) : List Inp → Int
  | [] => k
  | x :: l => lastS x.s l
/-- whether a client takes an input -/
def pushB (c : Cli) (x : Inp) : Bool := validC c && (decide (x.c = c.id) && decide (lastS c.ack c.p < x.s))
theorem Fresh.grownI {base base' size n : Nat} {t : TypeId} {w w' : World} {v s : Value} {es : List Ent} {xs : List Value} (h : Fresh base w v es) (hg : w.grownBy w' s.ownBlock) (hr : w.ownsRow base' t size s n xs) (h1 : 48 ≠ t) (h2 : 43 ≠ t) : Fresh base w' v es := by
  obtain ⟨h0, ss, h3, h4, h5, h6⟩ := h
  refine ⟨h0, ss, h3, h4.kept hg ?_, fun i s e hs he => (h5 i s e hs he).grown hg hr h1, h6⟩
  rcases h4.2 with ⟨hv, _⟩ | ⟨g, cap, cur, hv, hb, hh, _⟩
  · left; rw [hv]; rfl
  · right
    rw [hv]
    exact bk_ne_row hh h2 hr
/-- a client with one more input -/
def PushOk (w : World) (c : Cli) (x : Inp) (e : Ending) (w' : World) : Prop :=
  ∃ a n cap pa pn pc, e = .returned (.tuple #[Cv c a n cap pa pn pc, .int .i64 0]) ∧ (Fresh w.heap.size w' (.slice a n cap) c.b.es ∧ RowI w.heap.size w' (.slice pa pn pc) (c.p ++ [x])) ∧ Below w.heap.size w w'
abbrev Cz : Value := .agg #[.int .i64 0, .int .i64 0, .int .i64 0, .int .i64 0, .slice none 0 0, .int .i64 0, .slice none 0 0]
end Go.Proofs.YtlcjkomfjgddeaaGreatDoor
