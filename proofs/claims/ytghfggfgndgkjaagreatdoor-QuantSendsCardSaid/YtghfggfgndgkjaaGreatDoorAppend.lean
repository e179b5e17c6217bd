/- append on a slice of the call's own: where the result lies is known: in the same array, or in a new one. -/
import Derived.Test.YtghfggfgndgkjaaGreatDoorReg3
import Derived.ArgAppend
import Derived.OwnWalk
import Derived.Deep.Onto
import Derived.Deep.AppendLies
set_option linter.unusedVariables false
set_option linter.unusedSimpArgs false
namespace Go.Proofs.YtghfggfgndgkjaaGreatDoor
open Go Go.RowKit Go.Sort

theorem grown_any {w w' : World} (h : w.grownBy w' none) (r : Option Nat) : w.grownBy w' r := ⟨h.os, h.tape, h.output, h.size, fun k hk _ => h.block k hk (by simp)⟩
theorem wpList_append_mine {P : Program} (w : World) {ops : Array Oper} {rest : List Oper} {o : Oper} {a : Act} {Q : Exit → Act → World → Prop}
    (hg : o.guard = none) (s x : Operand) (t : TypeId) (hop : o.op = Op.call { callee := Callee.builtin Builtin.append, args := #[s, x], argTypes := #[t, t] })
    (base : Nat) (e : TypeId) (i : TypeInfo) (z : Value) (size bytes : Nat) (h1 : P.underlying t = some (.slice e)) (h2 : P.info? e = some i) (h3 : i.zero = some z) (h4 : i.size = size) (h5 : i.bytes = bytes) (h6 : z.cells.size = size) (h7 : 0 < size)
    (v : Value) (n : Nat) (xs : List Value) (hs : a.eval s = v) (hown : w.ownsRow base e size v n xs)
    (ad : Addr) (m c : Nat) (news : List Value) (hx : a.eval x = .slice (some ad) m c) (hn : news.length = m * size) (hc : ∀ j u, news[j]? = some u → w.cell? (ad.add j) = some u) (h1c : ∀ u ∈ news, u.oneCell' = true)
    (hm : 0 < m) (b1 : n + m ≤ maxLen) (b2 : (n + m) * bytes ≤ 140737488355328) (hbase : base ≤ w.heap.size)
    (hK : ∀ g cap w', w'.ownsRow base e size (.slice (some ⟨g, 0, none⟩) (n + m) cap) (n + m) (xs ++ news) → w.grownBy w' v.ownBlock → (v.ownBlock = some g ∨ w.heap.size ≤ g) → wpList P ops Q rest (a.put o.dst (.slice (some ⟨g, 0, none⟩) (n + m) cap)) w') :
    wpList P ops Q (o :: rest) a w := by
  have new : ∀ v' w', w'.ownsRow w.heap.size e size v' (n + m) (xs ++ news) → w.grownBy w' none → wpList P ops Q rest (a.put o.dst v') w' := fun v' w' r1 r2 => by
    obtain ⟨g, cap, rfl, hg1, _⟩ := r1.form (by omega)
    exact hK g cap w' (r1.mono hbase) (grown_any r2 _) (.inr hg1)
  have hlo := hown.1
  rcases hown.2 with ⟨rfl, rfl⟩ | ⟨g, cap, cur, rfl, hbg, hgb, hnc, hcm, hcs, htake⟩
  · exact wpList_append_grows w hg s x t hop e i z size bytes h1 h2 h3 h4 h5 h6 h7 none 0 0 xs hs (fun _ => ⟨rfl, rfl⟩) hlo (fun b hb => by cases hb) ad m c news hx hn hc h1c (by omega) b1 b2 new
  · by_cases hr : n + m ≤ cap
    · exact wpList_append_fits w hg s x t hop base e i size h1 h2 h4 g n cap xs hs hown ad m c news hx hn hc h1c hr (fun w' r1 r2 => hK g cap w' r1 r2 (.inl rfl))
    · exact wpList_append_grows w hg s x t hop e i z size bytes h1 h2 h3 h4 h5 h6 h7 (some ⟨g, 0, none⟩) n cap xs hs (fun h => by cases h) hlo (fun b hb j u hj => by cases hb; exact hown.cells (g := g) rfl j u hj) ad m c news hx hn hc h1c (by omega) b1 b2 new
/-- a block of another type is no row of this type -/
theorem bk_ne_row {w : World} {g : Nat} {cs : Array Value} {t e : TypeId} {base size n : Nat} {v : Value} {xs : List Value} (h : Bk w g cs t) (hte : t ≠ e) (hr : w.ownsRow base e size v n xs) : some g ≠ v.ownBlock := fun he => by
  rcases hr.2 with ⟨hv, _⟩ | ⟨b, cap, cur, hv, _, hb, _⟩
  · rw [hv] at he; cases he
  · rw [hv] at he
    obtain rfl : g = b := Option.some.inj he
    unfold Bk at h
    rw [h] at hb
    injection hb with hb
    injection hb with _ h2 _
    exact hte h2
theorem Mut.grown {U : Nat → Prop} {w v v' : World} {r : Option Nat} (h : Mut U w v) (hg : v.grownBy v' r) (hr : ∀ b, r = some b → U b ∨ w.heap.size ≤ b) : Mut U w v' :=
  ⟨hg.os.trans h.os, hg.tape.trans h.tape, hg.output.trans h.output, Nat.le_trans h.size hg.size, fun b hb hU => (hg.block b (Nat.lt_of_lt_of_le hb h.size) (fun e => by
    rcases hr b e.symm with h1 | h1
    · exact hU h1
    · omega)).trans (h.block b hb hU)⟩
theorem Mut.alloc {U : Nat → Prop} {w v : World} (h : Mut U w v) (o : Obj) : Mut U w (v.alloc o) :=
  ⟨h.os, h.tape, h.output, by have := h.size; simp; omega, fun b hb hU => (Below.heap_alloc v o b (Nat.lt_of_lt_of_le hb h.size)).trans (h.block b hb hU)⟩
theorem Mut.setCell {U : Nat → Prop} {w v : World} (h : Mut U w v) {p : Addr} (hp : U p.block ∨ w.heap.size ≤ p.block) (u : Value) : Mut U w (v.setCell p u) :=
  ⟨h.os, h.tape, h.output, by have := h.size; simp [World.setCell]; omega, fun b hb hU => (Below.heap_setCell v p u b (fun e => by
    subst e
    rcases hp with h1 | h1
    · exact hU h1
    · omega)).trans (h.block b hb hU)⟩
theorem Mut.drew {U : Nat → Prop} {w v : World} (h : Mut U w v) : Mut U w v.drew := ⟨h.os, h.tape, h.output, h.size, h.block⟩
theorem at_name {R : Act → World → Prop} {a : Act} {w : World} (S : World → Prop) (h0 : S w) (h : ∀ W, S W → R a W) : R a w := h w h0
end Go.Proofs.YtghfggfgndgkjaaGreatDoor
