/- The walk of package wide: the root bit by bit. The walks of package fixed: each function returns what the plain numbers say, and writes nothing that was there. The walks of package fixed, the functions whose statements leave an order open. Lists of components and entities in memory; store.Right, store.Valid. -/
import Derived.Test.YtlcjkomfjgddeaaGreatDoorM07
import Derived.Test.YtlcjkomfjgddeaaGreatDoorM08
import Derived.Deep.DeepCutAuto
import Derived.Test.YtlcjkomfjgddeaaGreatDoorM06
set_option linter.unusedVariables false
set_option linter.unusedSimpArgs false
namespace Go.Proofs.YtlcjkomfjgddeaaGreatDoor
open Go.RowKit

theorem or_bit (r p : Int) (i : Nat) (hi : i < 64) (hp : p = 2 ^ (63 - i)) (h0 : 0 ≤ r) (h1 : r + 2 * p ≤ 18446744073709551616) (h2 : r % (2 * p) = 0) (hpp : 0 < p) : bits .or .u64 r p = r + p := by
  have h := u64_or r p h0 (by omega) (by omega) (by omega)
  have hpn : p.toNat = 2 ^ (63 - i) := by
    rw [hp]
    have : ((2 : Int) ^ (63 - i)) = ((2 ^ (63 - i) : Nat) : Int) := by simp
    rw [this, Int.toNat_natCast]
  rw [h, nat_join (63 - i + 1) _ _ ?_ ?_]
  · omega
  · have e : (2 : Nat) ^ (63 - i + 1) = (2 * p).toNat := by rw [Nat.pow_succ]; omega
    rw [e]
    have : ((r.toNat % (2 * p).toNat : Nat) : Int) = r % (2 * p) := by rw [Int.natCast_emod, Int.toNat_of_nonneg h0, Int.toNat_of_nonneg (by omega)]
    omega
  · rw [hpn]; exact Nat.pow_lt_pow_right (by decide) (by omega)

theorem below_after {w V W w1 : World} (h : Below w.heap.size w V) (h0 : Below V.heap.size V W) (hb : Below W.heap.size W w1) : Below w.heap.size w w1 :=
  (h.trans (h0.mono h.size)).trans (hb.mono (Nat.le_trans h.size h0.size))
theorem below_two {w w1 w2 : World} (h : Below w.heap.size w w1) (hb : Below w1.heap.size w1 w2) : Below w.heap.size w w2 := h.trans (hb.mono h.size)

end Go.Proofs.YtlcjkomfjgddeaaGreatDoor
namespace Go.Proofs.YtlcjkomfjgddeaaGreatDoor
open Go.RowKit

theorem mul_eq (x y : Int) (hx1 : -18446744073709551616 < x) (hx2 : x < 18446744073709551616) (hy1 : -18446744073709551616 < y) (hy2 : y < 18446744073709551616) :
    Value.agg #[.int .u64 (tmh (low x) (low y)), .int .u64 (tml (low x) (low y)), .bool (nz (ngw x != ngw y) (tmh (low x) (low y)) (tml (low x) (low y)))] = W (x * y) := by
  have h1 := tm_eq (low x) (low y)
  rw [low_small x hx1 hx2, low_small y hy1 hy2] at *
  have h2 := tml_nonneg (x.natAbs : Int) (y.natAbs : Int)
  have h3 := tml_le (x.natAbs : Int) (y.natAbs : Int)
  refine made_sgn_eq h1 h2 (by omega) (Int.mul_nonneg (by omega) (by omega)) ⟨fun h => ?_, fun h => ?_⟩
  · have h' : ngw x = ngw y := by simpa using h
    unfold ngw at h'
    rw [decide_eq_decide] at h'
    by_cases g : x < 0
    · have g' := h'.1 g
      rw [show (x.natAbs : Int) = -x by omega, show (y.natAbs : Int) = -y by omega, Int.neg_mul_neg]
    · have g' : ¬ y < 0 := fun h => g (h'.2 h)
      rw [show (x.natAbs : Int) = x by omega, show (y.natAbs : Int) = y by omega]
  · have h' : ngw x ≠ ngw y := by simpa using h
    unfold ngw at h'
    rw [ne_eq, decide_eq_decide] at h'
    by_cases g : x < 0
    · have g' : ¬ y < 0 := fun h => h' ⟨fun _ => h, fun _ => g⟩
      rw [show (x.natAbs : Int) = -x by omega, show (y.natAbs : Int) = y by omega, Int.neg_mul, Int.neg_neg]
    · have g' : y < 0 := by
        apply Classical.byContradiction; intro h; exact h' ⟨fun h => absurd h g, fun h2 => absurd h2 h⟩
      rw [show (x.natAbs : Int) = x by omega, show (y.natAbs : Int) = -y by omega, Int.mul_neg, Int.neg_neg]
theorem mul_W (x y : Int) (hx1 : -18446744073709551616 < x) (hx2 : x < 18446744073709551616) (hy1 : -18446744073709551616 < y) (hy2 : y < 18446744073709551616) (w : World) :
    Calls Tryz.prog 99 #[W x, W y] w fun e w' => e = .returned (W (x * y)) ∧ Below w.heap.size w w' := by
  rw [← mul_eq x y hx1 hx2 hy1 hy2]
  exact mul_any x y w
theorem sum2_any (x y : Int) (b : Nat) (hx : (x.natAbs : Int) < 170141183460469231731687303715884105728) (hy : (y.natAbs : Int) < 170141183460469231731687303715884105728) (w : World) (hb : b < w.heap.size)
    (c0 : w.cell? ⟨b, 0, none⟩ = some (.int .u64 (hiw x))) (c1 : w.cell? ⟨b, 1, none⟩ = some (.int .u64 (low x))) (c2 : w.cell? ⟨b, 2, none⟩ = some (.bool (ngw x)))
    (c3 : w.cell? ⟨b, 3, none⟩ = some (.int .u64 (hiw y))) (c4 : w.cell? ⟨b, 4, none⟩ = some (.int .u64 (low y))) (c5 : w.cell? ⟨b, 5, none⟩ = some (.bool (ngw y))) :
    Calls Tryz.prog 100 #[.slice (some ⟨b, 0, none⟩) 2 2] w fun e w' => e = .returned (W (x + y)) ∧ Below w.heap.size w w' := by
  have h := sum_loop b 2 (fun j => if j = 0 then x else y) w (by omega) hb (fun j hj => by
    rcases (by omega : j = 0 ∨ j = 1) with rfl | rfl
    · exact ⟨c0, c1, c2⟩
    · exact ⟨c3, c4, c5⟩) (fun j hj => by
    rcases (by omega : j = 0 ∨ j = 1) with rfl | rfl
    · exact ⟨by simp [psum], by simpa using hx⟩
    · exact ⟨by simpa [psum] using hx, by simpa using hy⟩)
  have e : psum (fun j => if j = 0 then x else y) 2 = x + y := by simp [psum]
  rw [e] at h
  exact h
theorem below_c {w V w1 : World} (hb : Below V.heap.size V w1) (h0 : Below w.heap.size w V) : Below w.heap.size w w1 ∧ w.heap.size ≤ w1.heap.size := ⟨(after hb h0).2.2.2, (after hb h0).2.2.2.size⟩

theorem sub_any (a b : Int) (a1 : -9223372036854775808 ≤ a) (a2 : a ≤ 9223372036854775807) (b1 : -9223372036854775808 ≤ b) (b2 : b ≤ 9223372036854775807) (w : World) :
    Calls Tryz.prog 67 #[.int .i64 a, .int .i64 b] w fun e w' => e = .returned (.int .i64 (sat (a - b))) ∧ Below w.heap.size w w' := by
  go_enter Tryz.func67, Tryz.ntmps67
  go_wp2_with (first
    | (go_at_call 102; refine (diff_any _ _ (by assumption) (by assumption) (by assumption) (by assumption) _).mono ?_; rintro e w1 ⟨rfl, hb1⟩; obtain ⟨hg1, hs1⟩ := below_c (w := w) hb1 (by go_grown); clear hb1)
    | (go_at_call 101; refine (sat_any _ (by omega) (by omega) _).mono ?_; rintro e w1 ⟨rfl, hb1⟩; obtain ⟨hg1, hs1⟩ := below_c (w := w) hb1 (by go_grown); clear hb1))
  go_returns
  exact ⟨rfl, by go_grown⟩

theorem fl_abs (a b : Int) (hb : b ≠ 0) : -(a.natAbs : Int) ≤ fl a b ∧ fl a b ≤ (a.natAbs : Int) := by
  obtain ⟨h1, h2, h3⟩ := fl_nat a b hb
  have e1 := Int.mul_ediv_add_emod (a.natAbs : Int) (b.natAbs : Int)
  have e2 := Int.emod_nonneg (a.natAbs : Int) (b := (b.natAbs : Int)) (by omega)
  have e3 : 0 ≤ (a.natAbs : Int) / (b.natAbs : Int) := Int.ediv_nonneg (by omega) (by omega)
  have e4 : (a.natAbs : Int) / (b.natAbs : Int) * 1 ≤ (a.natAbs : Int) / (b.natAbs : Int) * (b.natAbs : Int) := Int.mul_le_mul_of_nonneg_left (by omega) e3
  rw [Int.mul_comm (b.natAbs : Int)] at e1
  generalize (a.natAbs : Int) / (b.natAbs : Int) * (b.natAbs : Int) = t at *
  generalize (a.natAbs : Int) / (b.natAbs : Int) = q at *
  generalize (a.natAbs : Int) % (b.natAbs : Int) = r at *
  by_cases s1 : (0 ≤ a ∧ 0 < b) ∨ (a ≤ 0 ∧ b < 0)
  · rw [(h1 s1).1]; omega
  · by_cases s2 : r = 0
    · rw [(h2 (by omega) s2).1]; omega
    · rw [(h3 (by omega) s2).1]; omega
theorem natAbs_mul_lt (a b n m : Int) (ha : (a.natAbs : Int) ≤ n) (hb : (b.natAbs : Int) ≤ m) : ((a * b).natAbs : Int) ≤ n * m := by
  rw [Int.natAbs_mul, Int.natCast_mul]
  exact Int.mul_le_mul ha hb (by omega) (by omega)

theorem field_size (x y z : Value) (w : World) : (Instr.field 162 (.agg #[x, y, z]) 0).run Tryz.prog w = .ok (.agg #[x, y]) w := by kernel_rfl
theorem rt_le (n : Int) (h : 0 ≤ n) : rt n ≤ n ∧ 0 ≤ rt n := by
  obtain ⟨h1, h2, h3⟩ := rt_spec n h
  refine ⟨?_, h1⟩
  have : rt n ≤ rt n * rt n ∨ rt n = 0 := by
    rcases (by omega : rt n = 0 ∨ 1 ≤ rt n) with h | h
    · exact .inr h
    · left
      have := Int.mul_le_mul_of_nonneg_left h h1
      omega
  omega
end Go.Proofs.YtlcjkomfjgddeaaGreatDoor
namespace Go.Proofs.YtlcjkomfjgddeaaGreatDoor
open Go.RowKit

theorem keep6 {V w1 : World} {p1 p2 p3 p4 p5 p6 : Addr} {v1 v2 v3 v4 v5 v6 : Value} (hb : Below V.heap.size V w1) (h : V.cell? p1 = some v1 ∧ V.cell? p2 = some v2 ∧ V.cell? p3 = some v3 ∧ V.cell? p4 = some v4 ∧ V.cell? p5 = some v5 ∧ V.cell? p6 = some v6) : w1.cell? p1 = some v1 ∧ w1.cell? p2 = some v2 ∧ w1.cell? p3 = some v3 ∧ w1.cell? p4 = some v4 ∧ w1.cell? p5 = some v5 ∧ w1.cell? p6 = some v6 :=
  ⟨cell_later hb h.1, cell_later hb h.2.1, keep4 hb h.2.2⟩

theorem rcell {V w1 : World} (hb : Below V.heap.size V w1) : (∀ p, (V.cell? p).isSome = true → w1.cell? p = V.cell? p) ∧ (∀ p, (V.cell? p).isSome = true → w1.frozen? p = V.frozen? p) := by
  refine ⟨fun p h => ?_, fun p h => ?_⟩
  · obtain ⟨v, hv⟩ := Option.isSome_iff_exists.1 h
    rw [cell_later hb hv, hv]
  · obtain ⟨v, hv⟩ := Option.isSome_iff_exists.1 h
    exact hb.frozen (World.block_lt_of_cell? V p hv)
theorem ralloc (w : World) (o : Obj) : (∀ p, (w.cell? p).isSome = true → (w.alloc o).cell? p = w.cell? p) ∧ (∀ p, (w.cell? p).isSome = true → (w.alloc o).frozen? p = w.frozen? p) :=
  rcell ((Below.refl _ _).alloc (Nat.le_refl _) o)
/-- a block that holds a number of package wide, and may be written -/
def Blk3 (w : World) (g : Nat) (z : Int) : Prop :=
  (w.cell? ⟨g, 0, none⟩ = some (.int .u64 (hiw z)) ∧ w.cell? ⟨g, 1, none⟩ = some (.int .u64 (low z)) ∧ w.cell? ⟨g, 2, none⟩ = some (.bool (ngw z))) ∧
  (w.frozen? ⟨g, 0, none⟩ = false ∧ w.frozen? ⟨g, 1, none⟩ = false ∧ w.frozen? ⟨g, 2, none⟩ = false)
theorem blk3_later {V w1 : World} {g : Nat} {z : Int} (hb : Below V.heap.size V w1) (h : Blk3 V g z) : Blk3 w1 g z := by
  have hg := World.block_lt_of_cell? V ⟨g, 0, none⟩ h.1.1
  exact ⟨keep3 hb h.1, (hb.frozen (p := ⟨g, 0, none⟩) hg).trans h.2.1, (hb.frozen (p := ⟨g, 1, none⟩) hg).trans h.2.2.1, (hb.frozen (p := ⟨g, 2, none⟩) hg).trans h.2.2.2⟩
theorem blk3_alloc {w : World} {g : Nat} {z : Int} (o : Obj) (h : Blk3 w g z) : Blk3 (w.alloc o) g z := blk3_later ((Below.refl _ _).alloc (Nat.le_refl _) o) h
theorem blk3_drew {w : World} {g : Nat} {z : Int} (h : Blk3 w g z) : Blk3 w.drew g z := h
theorem sat_word (r z : Int) (hv : z = r) (h0 : 0 ≤ r) (h1 : r ≤ 18446744073709551615) (w : World) :
    Calls Tryz.prog 101 #[.agg #[.int .u64 0, .int .u64 r, .bool false]] w fun e w' => e = .returned (.int .i64 (sat z)) ∧ Below w.heap.size w w' := by
  subst hv
  rw [show Value.agg #[.int .u64 0, .int .u64 z, .bool false] = W z from W_mk (by omega) h0 (by omega) (by symm; rw [decide_eq_false_iff_not]; omega)]
  exact sat_any z (by omega) (by omega) w
theorem rt_bd (N m : Int) (h0 : 0 ≤ N) (hm : 0 ≤ m) (h : N < (m + 1) * (m + 1)) : 0 ≤ rt N ∧ rt N ≤ m := by
  obtain ⟨h1, h2, h3⟩ := rt_spec N h0
  refine ⟨h1, ?_⟩
  have := sq_lt (a := rt N) (b := m + 1) h1 (by omega) (by omega)
  omega
theorem sq_bd (x : Int) (h1 : -9223372036854775808 ≤ x) (h2 : x ≤ 9223372036854775807) : 0 ≤ x * x ∧ x * x ≤ 85070591730234615865843651857942052864 := by
  have h := natAbs_mul_lt x x 9223372036854775808 9223372036854775808 (by omega) (by omega)
  have h0 : 0 ≤ x * x := by
    rcases Int.le_total 0 x with g | g
    · exact Int.mul_nonneg g g
    · have := Int.mul_nonneg (a := -x) (b := -x) (by omega) (by omega); rwa [Int.neg_mul_neg] at this
  exact ⟨h0, by omega⟩
/-- the quotient, rounded to the nearest number, halves up -/
def nr (p c : Int) : Int := if (c.natAbs : Int) ≤ 2 * fr p c then fl p c + 1 else fl p c
end Go.Proofs.YtlcjkomfjgddeaaGreatDoor
namespace Go.Proofs.YtlcjkomfjgddeaaGreatDoor
open Go Go.RowKit Go.Sort
set_option maxRecDepth 100000
attribute [local go_sem] opLow opUpon opLow2 opUpon2

/-- a list in memory: its elements lie one behind the other, P says how each lies -/
def ListAt {α : Type} (P : World → Nat → Nat → α → Prop) (sz : Nat) (w : World) (v : Value) (l : List α) : Prop :=
  ((∃ a, v = .slice a 0 0) ∧ l = []) ∨ ∃ b off cap, v = .slice (some ⟨b, off, none⟩) l.length cap ∧ l.length < 1099511627776 ∧ ∀ i x, l[i]? = some x → P w b (off + i * sz) x
theorem ListAt.below {α : Type} {P : World → Nat → Nat → α → Prop} {sz : Nat} {w w' : World} {v : Value} {l : List α} (hP : ∀ b o x, P w b o x → P w' b o x) (h : ListAt P sz w v l) : ListAt P sz w' v l := by
  rcases h with h | ⟨b, off, cap, h1, h2, h3⟩
  · exact .inl h
  · exact .inr ⟨b, off, cap, h1, h2, fun i x hx => hP _ _ _ (h3 i x hx)⟩
theorem ListAt.form {α : Type} {P : World → Nat → Nat → α → Prop} {sz : Nat} {w : World} {v : Value} {l : List α} (h : ListAt P sz w v l) : ∃ a n cap, v = .slice a n cap := by
  rcases h with ⟨⟨a0, rfl⟩, _⟩ | ⟨b, off, cap, rfl, _⟩
  · exact ⟨_, _, _, rfl⟩
  · exact ⟨_, _, _, rfl⟩
/-- the cells of a component -/
def CompAt (w : World) (b o : Nat) (x : Cmp) : Prop :=
  (w.cell? ⟨b, o, none⟩ = some (.int .u8 x.k) ∧ w.cell? ⟨b, o + 1, none⟩ = some (.int .i64 x.a) ∧ w.cell? ⟨b, o + 2, none⟩ = some (.int .i64 x.b) ∧ w.cell? ⟨b, o + 3, none⟩ = some (.int .i64 x.c) ∧ w.cell? ⟨b, o + 4, none⟩ = some (.int .i64 x.d)) ∧ 0 ≤ x.k ∧ x.k ≤ 255
theorem CompAt.below {w w' : World} (hb : Below w.heap.size w w') (b o : Nat) (x : Cmp) (h : CompAt w b o x) : CompAt w' b o x :=
  ⟨⟨cell_later hb h.1.1, cell_later hb h.1.2.1, cell_later hb h.1.2.2.1, cell_later hb h.1.2.2.2.1, cell_later hb h.1.2.2.2.2⟩, h.2⟩
def CompsAt : World → Value → List Cmp → Prop := ListAt CompAt 5
theorem CompsAt.below {w w' : World} {v : Value} {l : List Cmp} (h : CompsAt w v l) (hb : Below w.heap.size w w') : CompsAt w' v l := ListAt.below (CompAt.below hb) h
/-- the cells of an entity -/
def EntAt (w : World) (b o : Nat) (e : Ent) : Prop := w.cell? ⟨b, o, none⟩ = some (.int .i64 e.id) ∧ ∃ a n cap, w.cell? ⟨b, o + 1, none⟩ = some (.slice a n cap) ∧ CompsAt w (.slice a n cap) e.cs
theorem EntAt.below {w w' : World} (hb : Below w.heap.size w w') (b o : Nat) (x : Ent) (h : EntAt w b o x) : EntAt w' b o x := by
  obtain ⟨h1, a, n, cap, h2, h3⟩ := h
  exact ⟨cell_later hb h1, a, n, cap, cell_later hb h2, h3.below hb⟩
def EntsAt : World → Value → List Ent → Prop := ListAt EntAt 2
theorem EntsAt.below {w w' : World} {v : Value} {l : List Ent} (h : EntsAt w v l) (hb : Below w.heap.size w w') : EntsAt w' v l := ListAt.below (EntAt.below hb) h
/-- the cells of a world -/
def WldAt (w : World) (b o : Nat) (W : Wld) : Prop := w.cell? ⟨b, o, none⟩ = some (.int .i64 W.t) ∧ ∃ a n cap, w.cell? ⟨b, o + 1, none⟩ = some (.slice a n cap) ∧ EntsAt w (.slice a n cap) W.es
theorem WldAt.below {w w' : World} (hb : Below w.heap.size w w') (b o : Nat) (x : Wld) (h : WldAt w b o x) : WldAt w' b o x := by
  obtain ⟨h1, a, n, cap, h2, h3⟩ := h
  exact ⟨cell_later hb h1, a, n, cap, cell_later hb h2, h3.below hb⟩
def HistAt : World → Value → List Wld → Prop := ListAt WldAt 2
theorem HistAt.below {w w' : World} {v : Value} {l : List Wld} (h : HistAt w v l) (hb : Below w.heap.size w w') : HistAt w' v l := ListAt.below (WldAt.below hb) h

theorem kindOf_any (x : Cmp) (w : World) : Calls Tryz.prog 49 #[C x] w fun e w' => e = .returned (.int .u8 x.k) ∧ Below w.heap.size w w' := by
  go_enter Tryz.func49, Tryz.ntmps49
  go_wp2
  go_returns
  exact ⟨rfl, by go_grown⟩
theorem idOf_any (i : Int) (a : Option Addr) (n c : Nat) (w : World) : Calls Tryz.prog 51 #[.agg #[.int .i64 i, .slice a n c]] w fun e w' => e = .returned (.int .i64 i) ∧ Below w.heap.size w w' := by
  go_enter Tryz.func51, Tryz.ntmps51
  go_wp2
  go_returns
  exact ⟨rfl, by go_grown⟩
theorem at_lt {α : Type} {l : List α} {i : Nat} (h : i < l.length) : ∃ x, l[i]? = some x := ⟨l[i], List.getElem?_eq_getElem h⟩
theorem rises_no {l : List Int} {i : Nat} {a b : Int} (h : i + 1 < l.length) (hk : l.getD i 0 = a ∧ l.getD (i + 1) 0 = b) (hab : b ≤ a) : decide (Rises l) = false := by
  rw [decide_eq_false_iff_not]
  intro hr
  have := hr i (by omega)
  omega
theorem rises_yes {l : List Int} {j : Nat} (hj : l.length ≤ j + 1) (h : ∀ i, i < j → l.getD i 0 < l.getD (i + 1) 0) : decide (Rises l) = true := by
  rw [decide_eq_true_iff]
  exact fun i hi => h i (by omega)
/-- the first element of which p holds; -1, if there is none -/
def firstOf {α : Type} (p : α → Bool) (l : List α) : Int := if l.any p = true then ((l.findIdx p : Nat) : Int) else -1
theorem firstOf_yes {α : Type} {p : α → Bool} {l : List α} {j : Nat} {x : α} (hx : l[j]? = some x) (hp : p x = true) (h : ∀ i y, i < j → l[i]? = some y → p y = false) : firstOf p l = j := by
  obtain ⟨hj, rfl⟩ := List.getElem?_eq_some_iff.1 hx
  have h1 : l.any p = true := List.any_eq_true.2 ⟨_, List.getElem_mem hj, hp⟩
  have h2 : l.findIdx p = j := (List.findIdx_eq hj).2 ⟨hp, fun i hi => h i _ hi (List.getElem?_eq_getElem _)⟩
  unfold firstOf
  rw [if_pos h1, h2]
theorem firstOf_no {α : Type} {p : α → Bool} {l : List α} (h : ∀ (i : Nat) (y : α), l[i]? = some y → p y = false) : firstOf p l = -1 := by
  unfold firstOf
  rw [if_neg]
  intro h1
  obtain ⟨x, hx, hp⟩ := List.any_eq_true.1 h1
  obtain ⟨i, hi⟩ := List.mem_iff_getElem?.1 hx
  rw [h i x hi] at hp; cases hp
theorem firstOf_iff {α : Type} (p : α → Bool) (l : List α) : 0 ≤ firstOf p l ↔ l.any p = true := by
  unfold firstOf
  split
  · rename_i h; exact ⟨fun _ => h, fun _ => by omega⟩
  · rename_i h; exact ⟨fun h' => by omega, fun h' => absurd h' h⟩
theorem ret_i64 {a b : Int} (h : a = b) : Ending.returned (.int .i64 a) = .returned (.int .i64 b) := by rw [h]
set_option maxHeartbeats 4000000 in
theorem risingComp_any (l : List Cmp) (v : Value) (w : World) (h : CompsAt w v l) :
    Calls Tryz.prog 73 #[v, .func (.func 49) #[] #[]] w fun e w' => e = .returned (.bool (decide (Rises (l.map Cmp.k)))) ∧ Below w.heap.size w w' := by
  rcases h with ⟨⟨a0, rfl⟩, rfl⟩ | ⟨b, off, cap, rfl, hl, hc⟩
  · go_enter Tryz.func73, Tryz.ntmps73
    go_wp2
    refine wp_loop_rounds 1 ?_
    rw [rounds_succ]
    go_wp2
    go_returns
    exact ⟨ret_bool (by decide), by go_grown⟩
  · obtain ⟨n, hn⟩ : ∃ n, l.length = n := ⟨_, rfl⟩
    have HN := Lib.hid hn
    rw [hn] at hl ⊢
    clear hn
    go_enter Tryz.func73, Tryz.ntmps73
    go_wp2
    go_loopw [5] (fun v5 wr => ∃ j : Nat, (j + 1 ≤ n ∨ j = 0) ∧ v5 = .int .i64 ((j : Int) + 1) ∧ Hid (∀ i, i < j → (l.map Cmp.k).getD i 0 < (l.map Cmp.k).getD (i + 1) 0) ∧ Below w.heap.size w wr) (fun v5 _ => n + 1 - (intOf v5).toNat)
    case atStart => exact ⟨0, .inr rfl, rfl, Lib.hid (fun i hi => absurd hi (by omega)), by go_grown⟩
    case round =>
      obtain ⟨j, hj, rfl, HJ, hb⟩ := hrel
      by_cases hlt : j + 1 < n
      · obtain ⟨x, hx⟩ := at_lt (l := l) (i := j) (by rw [HN.out]; omega)
        obtain ⟨y, hy⟩ := at_lt (l := l) (i := j + 1) (by rw [HN.out]; omega)
        obtain ⟨⟨x0, x1, x2, x3, x4⟩, xk⟩ := hc j x hx
        obtain ⟨⟨y0, y1, y2, y3, y4⟩, yk⟩ := hc (j + 1) y hy
        have HK := Lib.hid (And.intro (map_at Cmp.k hx) (map_at Cmp.k hy))
        clear hx hy
        replace x0 := cell_regrown (cell_later hb x0)
        replace x1 := cell_regrown (cell_later hb x1)
        replace x2 := cell_regrown (cell_later hb x2)
        replace x3 := cell_regrown (cell_later hb x3)
        replace x4 := cell_regrown (cell_later hb x4)
        replace y0 := cell_regrown (cell_later hb y0)
        replace y1 := cell_regrown (cell_later hb y1)
        replace y2 := cell_regrown (cell_later hb y2)
        replace y3 := cell_regrown (cell_later hb y3)
        replace y4 := cell_regrown (cell_later hb y4)
        go_wp2
        have e1 : IntKind.i64.wrap (j : Int) = (j : Int) := by rw [IntKind.wrap_i64]; omega
        have e2 : (j : Int) < n := by omega
        have e3 : (j : Int) + 1 < n := by omega
        have e4 : ((j : Int) + 1).toNat = j + 1 := by omega
        have e5 : (0 : Int) ≤ (j : Int) + 1 := by omega
        refine wp_region_low 13 (by kernel_rfl) (by kernel_rfl) ?_
        simp only [List.take, List.drop]
        iterate 13 (refine low_step (fun K hK => ?_); go_simp; first | (refine hK _ ?_; clear hK K) | (apply Exists.intro; refine ⟨fun p => ?_, hK _ ?_⟩; (first | with_reducible exact kindOf_any _ _); clear hK K))
        refine low_nil ?_
        intro W1 hC
        have hb1 := hC.1
        obtain ⟨hb', hs'⟩ := below_c (w := w) hb1 hb
        clear x0 x1 x2 x3 x4 y0 y1 y2 y3 y4 hC hb1 hb
        by_cases hle : Cmp.k y ≤ Cmp.k x
        · go_wp2
          go_returns
          exact ⟨ret_bool (rises_no (by rw [List.length_map, HN.out]; exact hlt) HK.out hle).symm, hb'⟩
        · go_wp2
          go_roundw
          case rel => exact ⟨j + 1, by omega, by go_num, Lib.hid (fun i hi => by
            rcases Nat.lt_succ_iff_lt_or_eq.1 hi with h | h
            · exact HJ.out i h
            · rw [h, HK.out.1, HK.out.2]; omega), hb'⟩
          case measure => simp [intOf]; omega
      · go_wp2
        go_returns
        exact ⟨ret_bool (rises_yes (by rw [List.length_map, HN.out]; omega) HJ.out).symm, hb⟩
set_option maxHeartbeats 4000000 in
theorem risingEntity_any (l : List Ent) (v : Value) (w : World) (h : EntsAt w v l) :
    Calls Tryz.prog 50 #[v, .func (.func 51) #[] #[]] w fun e w' => e = .returned (.bool (decide (Rises (l.map Ent.id)))) ∧ Below w.heap.size w w' := by
  rcases h with ⟨⟨a0, rfl⟩, rfl⟩ | ⟨b, off, cap, rfl, hl, hc⟩
  · go_enter Tryz.func50, Tryz.ntmps50
    go_wp2
    refine wp_loop_rounds 1 ?_
    rw [rounds_succ]
    go_wp2
    go_returns
    exact ⟨ret_bool (by decide), by go_grown⟩
  · obtain ⟨n, hn⟩ : ∃ n, l.length = n := ⟨_, rfl⟩
    have HN := Lib.hid hn
    rw [hn] at hl ⊢
    clear hn
    go_enter Tryz.func50, Tryz.ntmps50
    go_wp2
    go_loopw [5] (fun v5 wr => ∃ j : Nat, (j + 1 ≤ n ∨ j = 0) ∧ v5 = .int .i64 ((j : Int) + 1) ∧ Hid (∀ i, i < j → (l.map Ent.id).getD i 0 < (l.map Ent.id).getD (i + 1) 0) ∧ Below w.heap.size w wr) (fun v5 _ => n + 1 - (intOf v5).toNat)
    case atStart => exact ⟨0, .inr rfl, rfl, Lib.hid (fun i hi => absurd hi (by omega)), by go_grown⟩
    case round =>
      obtain ⟨j, hj, rfl, HJ, hb⟩ := hrel
      by_cases hlt : j + 1 < n
      · obtain ⟨x, hx⟩ := at_lt (l := l) (i := j) (by rw [HN.out]; omega)
        obtain ⟨y, hy⟩ := at_lt (l := l) (i := j + 1) (by rw [HN.out]; omega)
        obtain ⟨x0, xa, xn, xc, x1, xh⟩ := hc j x hx
        obtain ⟨y0, ya, yn, yc, y1, yh⟩ := hc (j + 1) y hy
        have HK := Lib.hid (And.intro (map_at Ent.id hx) (map_at Ent.id hy))
        clear hx hy
        replace x0 := cell_regrown (cell_later hb x0)
        replace x1 := cell_regrown (cell_later hb x1)
        replace y0 := cell_regrown (cell_later hb y0)
        replace y1 := cell_regrown (cell_later hb y1)
        go_wp2
        have e1 : IntKind.i64.wrap (j : Int) = (j : Int) := by rw [IntKind.wrap_i64]; omega
        have e2 : (j : Int) < n := by omega
        have e3 : (j : Int) + 1 < n := by omega
        have e4 : ((j : Int) + 1).toNat = j + 1 := by omega
        have e5 : (0 : Int) ≤ (j : Int) + 1 := by omega
        refine wp_region_low 13 (by kernel_rfl) (by kernel_rfl) ?_
        simp only [List.take, List.drop]
        iterate 13 (refine low_step (fun K hK => ?_); go_simp; first | (refine hK _ ?_; clear hK K) | (apply Exists.intro; refine ⟨fun p => ?_, hK _ ?_⟩; (first | with_reducible exact idOf_any _ _ _ _ _); clear hK K))
        refine low_nil ?_
        intro W1 hC
        have hb1 := hC.1
        obtain ⟨hb', hs'⟩ := below_c (w := w) hb1 hb
        clear x0 x1 y0 y1 hC hb1 hb
        by_cases hle : Ent.id y ≤ Ent.id x
        · go_wp2
          go_returns
          exact ⟨ret_bool (rises_no (by rw [List.length_map, HN.out]; exact hlt) HK.out hle).symm, hb'⟩
        · go_wp2
          go_roundw
          case rel => exact ⟨j + 1, by omega, by go_num, Lib.hid (fun i hi => by
            rcases Nat.lt_succ_iff_lt_or_eq.1 hi with h | h
            · exact HJ.out i h
            · rw [h, HK.out.1, HK.out.2]; omega), hb'⟩
          case measure => simp [intOf]; omega
      · go_wp2
        go_returns
        exact ⟨ret_bool (rises_yes (by rw [List.length_map, HN.out]; omega) HJ.out).symm, hb⟩
theorem unfit_any (x : Cmp) (w : World) (hR : RG w) (k0 : 0 ≤ x.k ∧ x.k ≤ 255) :
    Calls Tryz.prog 75 #[C x] w fun e w' => e = .returned (.bool (!fits x)) ∧ Below w.heap.size w w' := by
  have hb0 := (Below.refl w.heap.size w).alloc (Nat.le_refl _) (.cells #[.int .u8 x.k, .int .i64 x.a, .int .i64 x.b, .int .i64 x.c, .int .i64 x.d] 48)
  go_enter Tryz.func75, Tryz.ntmps75
  go_wp2_with fail
  with_reducible refine (fits_any x _ (hR.below hb0) k0.1 k0.2).mono ?_
  rintro e w1 ⟨rfl, hb⟩
  obtain ⟨hg1, hs1⟩ := below_c (w := w) hb hb0
  go_wp2
  go_returns
  exact ⟨rfl, hg1⟩
set_option maxHeartbeats 4000000 in
theorem indexComp_any (l : List Cmp) (v : Value) (w : World) (h : CompsAt w v l) (hR : RG w) :
    Calls Tryz.prog 39 #[v, .func (.func 75) #[] #[]] w fun e w' => e = .returned (.int .i64 (firstOf (fun x => !fits x) l)) ∧ Below w.heap.size w w' := by
  rcases h with ⟨⟨a0, rfl⟩, rfl⟩ | ⟨b, off, cap, rfl, hl, hc⟩
  · go_enter Tryz.func39, Tryz.ntmps39
    go_wp2
    refine wp_loop_rounds 1 ?_
    rw [rounds_succ]
    go_wp2
    go_returns
    exact ⟨rfl, by go_grown⟩
  · obtain ⟨n, hn⟩ : ∃ n, l.length = n := ⟨_, rfl⟩
    have HN := Lib.hid hn
    rw [hn] at hl ⊢
    clear hn
    go_enter Tryz.func39, Tryz.ntmps39
    go_wp2
    go_loopw [8] (fun v8 wr => ∃ j : Nat, j ≤ n ∧ v8 = .int .i64 j ∧ Hid (∀ i x, i < j → l[i]? = some x → (fun x => !fits x) x = false) ∧ Below w.heap.size w wr) (fun v8 _ => n - (intOf v8).toNat)
    case atStart => exact ⟨0, by omega, rfl, Lib.hid (fun i x hi => absurd hi (by omega)), by go_grown⟩
    case round =>
      obtain ⟨j, hj, rfl, HJ, hb⟩ := hrel
      by_cases hlt : j < n
      · obtain ⟨x, hx⟩ := at_lt (l := l) (i := j) (by rw [HN.out]; omega)
        have hP := hc j x hx
        obtain ⟨⟨x0, x1, x2, x3, x4⟩, xk⟩ := hP
        have HX := Lib.hid (And.intro hx (hc j x hx))
        clear hx
        replace x0 := cell_later hb x0
        replace x1 := cell_later hb x1
        replace x2 := cell_later hb x2
        replace x3 := cell_later hb x3
        replace x4 := cell_later hb x4
        go_wp2_with fail
        with_reducible refine (unfit_any x _ (hR.below hb) xk).mono ?_
        rintro e W1 ⟨rfl, hb1⟩
        obtain ⟨hb', hs'⟩ := below_c (w := w) hb1 hb
        clear x0 x1 x2 x3 x4 hb1 hb
        by_cases hbad : (fun x => !fits x) x = true
        · have HB := Lib.hid hbad
          simp only at hbad
          go_wp2
          go_returns
          exact ⟨ret_i64 (firstOf_yes HX.out.1 HB.out HJ.out).symm, hb'⟩
        · have hbad : (fun x => !fits x) x = false := by simpa using hbad
          have HB := Lib.hid hbad
          simp only at hbad
          go_wp2
          go_roundw
          case rel => exact ⟨j + 1, by omega, by go_num, Lib.hid (fun i y hi hy => by
            rcases Nat.lt_succ_iff_lt_or_eq.1 hi with h | h
            · exact HJ.out i y h hy
            · subst h
              rw [HX.out.1] at hy
              cases hy
              exact HB.out), hb'⟩
          case measure => simp [intOf]; omega
      · go_wp2
        go_returns
        exact ⟨ret_i64 (firstOf_no (fun i x hx => HJ.out i x (by have := (List.getElem?_eq_some_iff.1 hx).1; have := HN.out; omega) hx)).symm, hb⟩
theorem containsComp_any (l : List Cmp) (v : Value) (w : World) (h : CompsAt w v l) (hR : RG w) :
    Calls Tryz.prog 74 #[v, .func (.func 75) #[] #[]] w fun e w' => e = .returned (.bool (l.any (fun x => !fits x))) ∧ Below w.heap.size w w' := by
  obtain ⟨z, hz⟩ : ∃ z, firstOf (fun x => !fits x) l = z := ⟨_, rfl⟩
  have HZ := Lib.hid (show (0 ≤ z ↔ l.any (fun x => !fits x) = true) by rw [← hz]; exact firstOf_iff _ _)
  go_enter Tryz.func74, Tryz.ntmps74
  go_wp2_with fail
  with_reducible refine (indexComp_any l _ _ h hR).mono ?_
  rw [hz]
  clear hz
  rintro e W1 ⟨rfl, hb⟩
  go_wp2
  go_returns
  exact ⟨ret_bool (by rw [Bool.eq_iff_iff, ← HZ.out]; simp), hb⟩
theorem not_any {α : Type} (l : List α) (p : α → Bool) (q : α → Prop) [DecidablePred q] (h : ∀ x, p x = !decide (q x)) : (!l.any p) = decide (∀ x ∈ l, q x) := by
  rw [Bool.eq_iff_iff]
  simp only [Bool.not_eq_true', decide_eq_true_eq]
  constructor
  · intro h1 x hx
    have := List.any_eq_false.1 h1 x hx
    rw [h] at this
    simpa using this
  · intro h1
    rw [List.any_eq_false]
    intro x hx
    rw [h]
    simpa using h1 x hx
theorem right_eq (e : Ent) : decide (Right e) = (decide (1 ≤ e.id) && decide (e.id ≤ 65536) && decide (Rises (e.cs.map Cmp.k)) && !e.cs.any (fun x => !fits x)) := by
  rw [not_any e.cs (fun x => !fits x) (fun x => fits x = true) (fun x => by simp)]
  unfold Right
  simp [and_assoc, Bool.and_assoc]
theorem ListAt.len {α : Type} {P : World → Nat → Nat → α → Prop} {sz : Nat} {w : World} {a : Option Addr} {n cap : Nat} {l : List α} (h : ListAt P sz w (.slice a n cap) l) : n = l.length := by
  rcases h with ⟨⟨a0, h⟩, rfl⟩ | ⟨b, off, c, h, _⟩
  · injection h with _ h _
  · injection h with _ h _
set_option maxHeartbeats 4000000 in
theorem right_any (e : Ent) (a : Option Addr) (n c : Nat) (w : World) (hR : RG w) (h : CompsAt w (.slice a n c) e.cs) :
    Calls Tryz.prog 54 #[.agg #[.int .i64 e.id, .slice a n c]] w fun e' w' => e' = .returned (.bool (decide (Right e))) ∧ Below w.heap.size w w' := by
  obtain ⟨id, cs⟩ := e
  simp only at h
  have hb0 := (Below.refl w.heap.size w).alloc (Nat.le_refl _) (.cells #[.int .i64 id, .slice a n c] 43)
  have HE := Lib.hid (right_eq ⟨id, cs⟩)
  by_cases h1 : 1 ≤ id
  · by_cases h2 : id ≤ 65536
    · obtain ⟨r, hr⟩ : ∃ r, decide (Rises (cs.map Cmp.k)) = r := ⟨_, rfl⟩
      obtain ⟨z, hz⟩ : ∃ z, cs.any (fun x => !fits x) = z := ⟨_, rfl⟩
      have HZ := Lib.hid (And.intro hr hz)
      clear hr hz
      go_enter Tryz.func54, Tryz.ntmps54
      go_wp2_with fail
      with_reducible refine (risingComp_any cs _ _ (h.below hb0)).mono ?_
      rw [HZ.out.1]
      rintro e w1 ⟨rfl, hb⟩
      have B1 := Bk.below (g := w.heap.size) (cs := #[.int .i64 id, .slice a n c]) (t := 43) (Bk.made _ _ _) hb
      have c1 := B1.cell (v := .slice a n c) 1 rfl
      obtain ⟨hg1, hs1⟩ := below_c (w := w) hb hb0
      have h' := h.below hg1
      have hR' := hR.below hg1
      clear hb hb0
      cases r
      · go_wp2
        go_returns
        exact ⟨ret_bool (by rw [HE.out, HZ.out.1]; simp), hg1⟩
      · go_wp2_with fail
        with_reducible refine (containsComp_any cs _ _ h' hR').mono ?_
        rw [HZ.out.2]
        rintro e w2 ⟨rfl, hb2⟩
        obtain ⟨hg2, hs2⟩ := below_c (w := w) hb2 hg1
        go_wp2
        go_returns
        exact ⟨ret_bool (by rw [HE.out, HZ.out.1, HZ.out.2]; simp [h1, h2]), hg2⟩
    · go_enter Tryz.func54, Tryz.ntmps54
      go_wp2
      go_returns
      exact ⟨ret_bool (by rw [HE.out]; simp; omega), by go_grown⟩
  · go_enter Tryz.func54, Tryz.ntmps54
    go_wp2
    go_returns
    exact ⟨ret_bool (by rw [HE.out]; simp; omega), by go_grown⟩
theorem wrong_any (e : Ent) (a : Option Addr) (n c : Nat) (w : World) (hR : RG w) (h : CompsAt w (.slice a n c) e.cs) :
    Calls Tryz.prog 53 #[.agg #[.int .i64 e.id, .slice a n c]] w fun e' w' => e' = .returned (.bool (!decide (Right e))) ∧ Below w.heap.size w w' := by
  have hb0 := (Below.refl w.heap.size w).alloc (Nat.le_refl _) (.cells #[.int .i64 e.id, .slice a n c] 43)
  go_enter Tryz.func53, Tryz.ntmps53
  go_wp2_with fail
  with_reducible refine (right_any e a n c _ (hR.below hb0) (h.below hb0)).mono ?_
  rintro e' w1 ⟨rfl, hb⟩
  obtain ⟨hg1, hs1⟩ := below_c (w := w) hb hb0
  go_wp2
  go_returns
  exact ⟨rfl, hg1⟩
set_option maxHeartbeats 4000000 in
theorem indexEntity_any (l : List Ent) (v : Value) (w : World) (h : EntsAt w v l) (hR : RG w) :
    Calls Tryz.prog 72 #[v, .func (.func 53) #[] #[]] w fun e w' => e = .returned (.int .i64 (firstOf (fun x => !decide (Right x)) l)) ∧ Below w.heap.size w w' := by
  rcases h with ⟨⟨a0, rfl⟩, rfl⟩ | ⟨b, off, cap, rfl, hl, hc⟩
  · go_enter Tryz.func72, Tryz.ntmps72
    go_wp2
    refine wp_loop_rounds 1 ?_
    rw [rounds_succ]
    go_wp2
    go_returns
    exact ⟨rfl, by go_grown⟩
  · obtain ⟨n, hn⟩ : ∃ n, l.length = n := ⟨_, rfl⟩
    have HN := Lib.hid hn
    rw [hn] at hl ⊢
    clear hn
    go_enter Tryz.func72, Tryz.ntmps72
    go_wp2
    go_loopw [8] (fun v8 wr => ∃ j : Nat, j ≤ n ∧ v8 = .int .i64 j ∧ Hid (∀ i x, i < j → l[i]? = some x → (fun x => !decide (Right x)) x = false) ∧ Below w.heap.size w wr) (fun v8 _ => n - (intOf v8).toNat)
    case atStart => exact ⟨0, by omega, rfl, Lib.hid (fun i x hi => absurd hi (by omega)), by go_grown⟩
    case round =>
      obtain ⟨j, hj, rfl, HJ, hb⟩ := hrel
      by_cases hlt : j < n
      · obtain ⟨x, hx⟩ := at_lt (l := l) (i := j) (by rw [HN.out]; omega)
        have hP := hc j x hx
        obtain ⟨x0, xa, xn, xc, x1, xh⟩ := hP
        have HX := Lib.hid (And.intro hx (hc j x hx))
        clear hx
        replace x0 := cell_later hb x0
        replace x1 := cell_later hb x1
        go_wp2_with fail
        with_reducible refine (wrong_any x _ _ _ _ (hR.below hb) (xh.below hb)).mono ?_
        rintro e W1 ⟨rfl, hb1⟩
        obtain ⟨hb', hs'⟩ := below_c (w := w) hb1 hb
        clear x0 x1 hb1 hb
        by_cases hbad : (fun x => !decide (Right x)) x = true
        · have HB := Lib.hid hbad
          simp only at hbad
          go_wp2
          go_returns
          exact ⟨ret_i64 (firstOf_yes HX.out.1 HB.out HJ.out).symm, hb'⟩
        · have hbad : (fun x => !decide (Right x)) x = false := by simpa using hbad
          have HB := Lib.hid hbad
          simp only at hbad
          go_wp2
          go_roundw
          case rel => exact ⟨j + 1, by omega, by go_num, Lib.hid (fun i y hi hy => by
            rcases Nat.lt_succ_iff_lt_or_eq.1 hi with h | h
            · exact HJ.out i y h hy
            · subst h
              rw [HX.out.1] at hy
              cases hy
              exact HB.out), hb'⟩
          case measure => simp [intOf]; omega
      · go_wp2
        go_returns
        exact ⟨ret_i64 (firstOf_no (fun i x hx => HJ.out i x (by have := (List.getElem?_eq_some_iff.1 hx).1; have := HN.out; omega) hx)).symm, hb⟩
theorem containsEntity_any (l : List Ent) (v : Value) (w : World) (h : EntsAt w v l) (hR : RG w) :
    Calls Tryz.prog 52 #[v, .func (.func 53) #[] #[]] w fun e w' => e = .returned (.bool (l.any (fun x => !decide (Right x)))) ∧ Below w.heap.size w w' := by
  obtain ⟨z, hz⟩ : ∃ z, firstOf (fun x => !decide (Right x)) l = z := ⟨_, rfl⟩
  have HZ := Lib.hid (show (0 ≤ z ↔ l.any (fun x => !decide (Right x)) = true) by rw [← hz]; exact firstOf_iff _ _)
  go_enter Tryz.func52, Tryz.ntmps52
  go_wp2_with fail
  with_reducible refine (indexEntity_any l _ _ h hR).mono ?_
  rw [hz]
  clear hz
  rintro e W1 ⟨rfl, hb⟩
  go_wp2
  go_returns
  exact ⟨ret_bool (by rw [Bool.eq_iff_iff, ← HZ.out]; simp), hb⟩
theorem valid_eq (W : Wld) : decide (Valid W) = (decide (0 ≤ W.t) && decide (W.t ≤ 1073741824) && decide (W.es.length ≤ 64) && decide (Rises (W.es.map Ent.id)) && !W.es.any (fun x => !decide (Right x))) := by
  rw [not_any W.es (fun x => !decide (Right x)) Right (fun x => rfl)]
  unfold Valid
  simp [and_assoc, Bool.and_assoc]
set_option maxHeartbeats 4000000 in
theorem valid_any (W : Wld) (a : Option Addr) (n c : Nat) (w : World) (hR : RG w) (h : EntsAt w (.slice a n c) W.es) :
    Calls Tryz.prog 22 #[.agg #[.int .i64 W.t, .slice a n c]] w fun e' w' => e' = .returned (.bool (decide (Valid W))) ∧ Below w.heap.size w w' := by
  obtain ⟨t, es⟩ := W
  simp only at h
  have hb0 := (Below.refl w.heap.size w).alloc (Nat.le_refl _) (.cells #[.int .i64 t, .slice a n c] 26)
  have HE := Lib.hid (valid_eq ⟨t, es⟩)
  have HL := Lib.hid (show n = es.length from h.len)
  by_cases h1 : 0 ≤ t
  · by_cases h2 : t ≤ 1073741824
    · by_cases h3 : n ≤ 64
      · obtain ⟨r, hr⟩ : ∃ r, decide (Rises (es.map Ent.id)) = r := ⟨_, rfl⟩
        obtain ⟨z, hz⟩ : ∃ z, es.any (fun x => !decide (Right x)) = z := ⟨_, rfl⟩
        have HZ := Lib.hid (And.intro hr hz)
        clear hr hz
        go_enter Tryz.func22, Tryz.ntmps22
        go_wp2_with fail
        with_reducible refine (risingEntity_any es _ _ (h.below hb0)).mono ?_
        rw [HZ.out.1]
        rintro e w1 ⟨rfl, hb⟩
        have B1 := Bk.below (g := w.heap.size) (cs := #[.int .i64 t, .slice a n c]) (t := 26) (Bk.made _ _ _) hb
        have c1 := B1.cell (v := .slice a n c) 1 rfl
        obtain ⟨hg1, hs1⟩ := below_c (w := w) hb hb0
        have h' := h.below hg1
        have hR' := hR.below hg1
        clear hb hb0
        cases r
        · go_wp2
          go_returns
          exact ⟨ret_bool (by rw [HE.out, HZ.out.1]; simp), hg1⟩
        · go_wp2_with fail
          with_reducible refine (containsEntity_any es _ _ h' hR').mono ?_
          rw [HZ.out.2]
          rintro e w2 ⟨rfl, hb2⟩
          obtain ⟨hg2, hs2⟩ := below_c (w := w) hb2 hg1
          go_wp2
          go_returns
          exact ⟨ret_bool (by rw [HE.out, HZ.out.1, HZ.out.2, ← HL.out]; simp [h1, h2, h3]), hg2⟩
      · go_enter Tryz.func22, Tryz.ntmps22
        go_wp2
        go_returns
        exact ⟨ret_bool (by rw [HE.out, ← HL.out]; simp [h3]), by go_grown⟩
    · go_enter Tryz.func22, Tryz.ntmps22
      go_wp2
      go_returns
      exact ⟨ret_bool (by rw [HE.out]; simp; omega), by go_grown⟩
  · go_enter Tryz.func22, Tryz.ntmps22
    go_wp2
    go_returns
    exact ⟨ret_bool (by rw [HE.out]; simp; omega), by go_grown⟩
end Go.Proofs.YtlcjkomfjgddeaaGreatDoor
