/- Worlds as plain data, and what the layers store and interp make of them; plain. -/
import Derived.Test.YtjjodmkblpdnhaaDoorWords
set_option linter.unusedVariables false
set_option linter.unusedSimpArgs false
namespace Go.Proofs.YtjjodmkblpdnhaaDoor
open Go

structure Cmp where
  k : Int
  a : Int
  b : Int
  c : Int
  d : Int
structure Ent where
  id : Int
  cs : List Cmp
structure Wld where
  t : Int
  es : List Ent

/-- the ranges of the four numbers of a component of each kind, as the program's table has them -/
def tab : List Int :=
  [0, 0, 0, 0, 0, 0, 0, 0,
   -1048576, 1048576, -1048576, 1048576, 0, 0, 0, 0,
   -4096, 4096, -4096, 4096, 0, 0, 0, 0,
   1, 16384, 1, 16384, 0, 1, 0, 1,
   1, 8, 0, 0, 0, 0, 0, 0,
   0, 510, 0, 0, 0, 0, 0, 0,
   0, 15, 0, 0, 0, 0, 0, 0,
   -2147483648, 2147483647, -2147483648, 2147483647, -2147483648, 2147483647, -2147483648, 2147483647,
   0, 1048576, 0, 1048576, 0, 0, 0, 0,
   0, 2147483647, 0, 2147483647, 0, 2147483647, 0, 2147483647,
   -2147483648, 2147483647, -2147483648, 2147483647, -2147483648, 2147483647, -2147483648, 2147483647]
def lim (k : Int) (i : Nat) : Int × Int := (tab.getD (k.toNat * 8 + 2 * i) 0, tab.getD (k.toNat * 8 + 2 * i + 1) 0)
def Cmp.v (x : Cmp) : Nat → Int
  | 0 => x.a
  | 1 => x.b
  | 2 => x.c
  | _ => x.d
def inLim (x : Cmp) (i : Nat) : Bool := decide ((lim x.k i).1 ≤ x.v i) && decide (x.v i ≤ (lim x.k i).2)
/-- store.Fits -/
def extra (x : Cmp) : Bool := if x.k = 3 then decide (x.c = 0) || decide (x.a = x.b) else if x.k = 5 then decide (x.a % 2 = 0) else true
def fits (x : Cmp) : Bool := decide (1 ≤ x.k) && decide (x.k ≤ 10) && (inLim x 0 && inLim x 1 && inLim x 2 && inLim x 3) && extra x
/-- the keys of a list rise -/
def Rises (l : List Int) : Prop := ∀ i, i < l.length - 1 → l.getD i 0 < l.getD (i + 1) 0
instance decRises (l : List Int) : Decidable (Rises l) := by unfold Rises; infer_instance
/-- store.Right, store.Valid -/
def Right (e : Ent) : Prop := (1 ≤ e.id ∧ e.id ≤ 65536) ∧ Rises (e.cs.map Cmp.k) ∧ ∀ x ∈ e.cs, fits x = true
instance decRight (e : Ent) : Decidable (Right e) := by unfold Right; infer_instance
def Valid (w : Wld) : Prop := (0 ≤ w.t ∧ w.t ≤ 1073741824) ∧ w.es.length ≤ 64 ∧ Rises (w.es.map Ent.id) ∧ ∀ e ∈ w.es, Right e
instance decValid (w : Wld) : Decidable (Valid w) := by unfold Valid; infer_instance
def ValidH (h : List Wld) : Prop := ((∀ w ∈ h, Valid w) ∧ Rises (h.map Wld.t)) ∧ h.length ≤ 40
instance decValidH (h : List Wld) : Decidable (ValidH h) := by unfold ValidH; infer_instance
theorem map_at {α : Type} {l : List α} {i : Nat} {x : α} (f : α → Int) (h : l[i]? = some x) : (l.map f).getD i 0 = f x := by simp [List.getD, h]
end Go.Proofs.YtjjodmkblpdnhaaDoor
