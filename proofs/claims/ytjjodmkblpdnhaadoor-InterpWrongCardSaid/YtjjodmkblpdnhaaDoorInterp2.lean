/- interp.Between's move (its closure) and interp.position; what Between shows, plain. -/
import Derived.Test.YtjjodmkblpdnhaaDoorInterp1
set_option linter.unusedVariables false
set_option linter.unusedSimpArgs false
namespace Go.Proofs.YtjjodmkblpdnhaaDoor
open Go Go.RowKit Go.Sort
set_option maxRecDepth 100000
attribute [local go_sem] opLow opUpon opLow2 opUpon2

/-- n of d parts of the way from x to y -/
def mvI (x y n d : Int) : Int := sat (x + fl ((y - x) * n) d)
def posOf (cs : List Cmp) : Option Cmp := cs.find? (fun x => decide (x.k = 1))
def posX (cs : List Cmp) : Int := match posOf cs with
  | some x => x.a
  | none => 0
def posY (cs : List Cmp) : Int := match posOf cs with
  | some x => x.b
  | none => 0
/-- the last place of an id among the first k, from 1 on; 0: none -/
def lastK (es : List Ent) (i : Int) : Nat → Nat
  | 0 => 0
  | k + 1 => match es[k]? with
    | some x => if x.id = i then k + 1 else lastK es i k
    | none => lastK es i k
def toCs (B : Wld) (i : Int) : List Cmp := match lastK B.es i B.es.length with
  | 0 => []
  | k + 1 => match B.es[k]? with
    | some x => x.cs
    | none => []
def movC (n d : Int) (tc : List Cmp) (x : Cmp) : Cmp := if x.k = 1 ∧ (posOf tc).isSome = true then ⟨x.k, mvI x.a (posX tc) n d, mvI x.b (posY tc) n d, x.c, x.d⟩ else x
def movE (B : Wld) (n d : Int) (e : Ent) : Ent := ⟨e.id, e.cs.map (movC n d (toCs B e.id))⟩
def betw (A B : Wld) (n d : Int) : Wld := if n = d then B else ⟨mvI A.t B.t n d, A.es.map (movE B n d)⟩
theorem mvI_bd (x y n d : Int) : -9223372036854775808 ≤ mvI x y n d ∧ mvI x y n d ≤ 9223372036854775807 := sat_bd _
theorem lastK_le (es : List Ent) (i : Int) : ∀ k, lastK es i k ≤ k
  | 0 => Nat.le_refl 0
  | k + 1 => by
    have := lastK_le es i k
    unfold lastK
    split
    · split <;> omega
    · omega
theorem lastK_same {es : List Ent} {k : Nat} {x : Ent} (h : es[k]? = some x) : lastK es x.id (k + 1) = k + 1 := by
  simp [lastK, h]
theorem lastK_other {es : List Ent} {k : Nat} {x : Ent} {i : Int} (h : es[k]? = some x) (hi : x.id ≠ i) : lastK es i (k + 1) = lastK es i k := by
  simp [lastK, h, hi]
theorem posOf_hit {cs : List Cmp} {j : Nat} {x : Cmp} (hx : cs[j]? = some x) (hk : x.k = 1) (h : ∀ i y, i < j → cs[i]? = some y → ¬ y.k = 1) : posOf cs = some x := by
  obtain ⟨hj, rfl⟩ := List.getElem?_eq_some_iff.1 hx
  unfold posOf
  rw [List.find?_eq_some_iff_getElem]
  refine ⟨by simpa using hk, j, hj, rfl, fun i hi => ?_⟩
  simpa using h i _ hi (List.getElem?_eq_getElem _)
theorem posOf_miss {cs : List Cmp} (h : ∀ (i : Nat) (y : Cmp), cs[i]? = some y → ¬ y.k = 1) : posOf cs = none := by
  unfold posOf
  rw [List.find?_eq_none]
  intro y hy
  obtain ⟨i, hi⟩ := List.mem_iff_getElem?.1 hy
  simpa using h i y hi

set_option maxHeartbeats 1000000 in
theorem move_any (x y n d : Int) (p q : Nat) (w : World) (x1 : -9223372036854775808 ≤ x) (x2 : x ≤ 9223372036854775807) (y1 : -9223372036854775808 ≤ y) (y2 : y ≤ 9223372036854775807) (n1 : -9223372036854775808 ≤ n) (n2 : n ≤ 9223372036854775807) (d1 : -9223372036854775808 ≤ d) (d2 : d ≤ 9223372036854775807) (hd : d ≠ 0)
    (hp : w.cell? ⟨p, 0, none⟩ = some (.int .i64 n)) (hq : w.cell? ⟨q, 0, none⟩ = some (.int .i64 d)) :
    Calls Tryd.prog 32 #[.int .i64 x, .int .i64 y, .pointer (some ⟨p, 0, none⟩), .pointer (some ⟨q, 0, none⟩)] w fun e w' => e = .returned (.int .i64 (mvI x y n d)) ∧ Below w.heap.size w w' := by
  obtain ⟨z, hz⟩ : ∃ z, sat (x + fl ((y - x) * n) d) = z := ⟨_, rfl⟩
  have HZ := Lib.hid hz
  go_enter Tryd.func32, Tryd.ntmps32
  go_wp2_with fail
  with_reducible refine (lerp_any x y n d x1 x2 y1 y2 n1 n2 d1 d2 hd _).mono ?_
  rw [hz]
  clear hz
  rintro e w1 ⟨rfl, hb⟩
  go_wp2
  go_returns
  exact ⟨ret_i64 (by rw [← HZ.out]; rfl), hb⟩
/-- what position returns -/
def posV (cs : List Cmp) : Value := .tuple #[.agg #[.int .i64 (posX cs), .int .i64 (posY cs)], .bool (posOf cs).isSome]
theorem posV_some {cs : List Cmp} {x : Cmp} (h : posOf cs = some x) : posV cs = .tuple #[.agg #[.int .i64 x.a, .int .i64 x.b], .bool true] := by simp [posV, posX, posY, h]
theorem posV_none {cs : List Cmp} (h : posOf cs = none) : posV cs = .tuple #[.agg #[.int .i64 0, .int .i64 0], .bool false] := by simp [posV, posX, posY, h]
set_option maxHeartbeats 4000000 in
theorem position_any (e : Ent) (a : Option Addr) (n c : Nat) (w : World) (h : CompsAt w (.slice a n c) e.cs) :
    Calls Tryd.prog 34 #[.agg #[.int .i64 e.id, .slice a n c]] w fun e' w' => e' = .returned (posV e.cs) ∧ Below w.heap.size w w' := by
  obtain ⟨id, cs⟩ := e
  simp only at h
  have hlen := h.len
  have hn : n < 1099511627776 := by
    rcases h with ⟨_, rfl⟩ | ⟨b, off, cap, _, hl, _⟩
    · rw [hlen]; simp
    · rw [hlen]; exact hl
  have HL := Lib.hid hlen
  have HH := Lib.hid h
  clear hlen h
  go_enter Tryd.func34, Tryd.ntmps34
  go_wp2
  go_loopw [9] (fun v9 wr => ∃ j : Nat, j ≤ n ∧ v9 = .int .i64 j ∧ Hid (∀ i y, i < j → cs[i]? = some y → ¬ y.k = 1) ∧ Bk wr (w.heap.size + 1) #[.int .i64 0, .int .i64 0] 54 ∧ Below w.heap.size w wr) (fun v9 _ => n - (intOf v9).toNat)
  case atStart => exact ⟨0, by omega, rfl, Lib.hid (fun i x hi => absurd hi (by omega)), Bk.at_ (by simp), by go_grown⟩
  case round =>
    obtain ⟨j, hj, rfl, HJ, BV, hb⟩ := hrel
    have lt1 := BV.lt
    have f0 := BV.free 0
    have f1 := BV.free 1
    have z0 := BV.cell (v := .int .i64 0) 0 rfl
    have z1 := BV.cell (v := .int .i64 0) 1 rfl
    by_cases hlt : j < n
    · obtain ⟨x, hx⟩ := at_lt (l := cs) (i := j) (by rw [← HL.out]; exact hlt)
      rcases HH.out with ⟨h, hnil⟩ | ⟨b, off, cap, h, hl, hc⟩
      · rw [hnil] at hx; cases hx
      · injection h with h1 h2 h3
        subst h1 h3
        obtain ⟨⟨x0, x1, x2, x3, x4⟩, xk⟩ := hc j x hx
        have HX := Lib.hid hx
        clear hx h2 hc hl
        replace x0 := cell_later hb x0
        replace x1 := cell_later hb x1
        replace x2 := cell_later hb x2
        replace x3 := cell_later hb x3
        replace x4 := cell_later hb x4
        by_cases hk : x.k = 1
        · go_wp2
          refine post_name (fun V => Bk V (w.heap.size + 1) #[.int .i64 x.a, .int .i64 x.b] 54 ∧ Below w.heap.size w V) ⟨((BV.put 0 _).put 1 _).alloc _, by go_grown⟩ ?_
          rintro V ⟨BV', hbV⟩
          have y0 := BV'.cell (v := .int .i64 x.a) 0 rfl
          have y1 := BV'.cell (v := .int .i64 x.b) 1 rfl
          refine bodyPost_ret (v := .tuple #[.agg #[.int .i64 x.a, .int .i64 x.b], .bool true]) (by simp [results, Tryd.results34, go_sem, y0, y1]; try rfl) rfl ⟨by rw [posV_some (posOf_hit HX.out hk HJ.out)], hbV⟩
        · go_wp2
          go_roundw
          case rel => exact ⟨j + 1, by omega, by go_num, Lib.hid (fun i y hi hy => by
            rcases Nat.lt_succ_iff_lt_or_eq.1 hi with h | h
            · exact HJ.out i y h hy
            · subst h
              rw [HX.out] at hy
              cases hy
              exact hk), BV.alloc _, by go_grown⟩
          case measure => simp [intOf]; omega
    · go_wp2
      refine post_name (fun V => Bk V (w.heap.size + 1) #[.int .i64 0, .int .i64 0] 54 ∧ Below w.heap.size w V) ⟨(BV.put 0 _).put 1 _, by go_grown⟩ ?_
      rintro V ⟨BV', hbV⟩
      have y0 := BV'.cell (v := .int .i64 0) 0 rfl
      have y1 := BV'.cell (v := .int .i64 0) 1 rfl
      refine bodyPost_ret (v := .tuple #[.agg #[.int .i64 0, .int .i64 0], .bool false]) (by simp [results, Tryd.results34, go_sem, y0, y1]; try rfl) rfl ⟨by rw [posV_none (posOf_miss (fun i x hx => HJ.out i x (by have := (List.getElem?_eq_some_iff.1 hx).1; have := HL.out; omega) hx))], hbV⟩
end Go.Proofs.YtjjodmkblpdnhaaDoor
