/- What is shown between two worlds, plain. -/
import Derived.Test.YtjjodmkblpdnhaaDoorShowPlain
set_option linter.unusedVariables false
set_option linter.unusedSimpArgs false
namespace Go.Proofs.YtjjodmkblpdnhaaDoor
open Go Go.RowKit Go.Sort
set_option maxRecDepth 100000

def btw (n a b : Int) : Prop := min a b ≤ n ∧ n ≤ max a b
theorem mv_is {p q k o : Int} (bp : -1073741824 ≤ p ∧ p ≤ 1073741824) (bq : -1073741824 ≤ q ∧ q ≤ 1073741824) (bk : 0 ≤ k ∧ k ≤ o) (bo : 1 ≤ o) : mvI p q k o = p + (q - p) * k / o ∧ btw (mvI p q k o) p q := by
  have ho : 0 < o := by omega
  obtain ⟨D, hD⟩ : ∃ D, q - p = D := ⟨_, rfl⟩
  obtain ⟨a, ha⟩ : ∃ a, (q - p) * k = a := ⟨_, rfl⟩
  have e : fl a o = a / o := by unfold fl; rw [if_pos ho]
  obtain ⟨t, ht⟩ : ∃ t, a / o = t := ⟨_, rfl⟩
  have hb : min 0 D ≤ t ∧ t ≤ max 0 D := by
    rcases (by omega : D < 0 ∨ 0 ≤ D) with hd | hd
    · have g1 : D * o ≤ a := by rw [← ha, hD]; exact Int.mul_le_mul_of_nonpos_left (by omega) (by omega)
      have g2 : a ≤ 0 * o := by rw [← ha, hD, Int.zero_mul]; exact Int.mul_nonpos_of_nonpos_of_nonneg (by omega) bk.1
      have g3 := Int.le_ediv_of_mul_le ho g1
      have g4 := Int.ediv_le_of_le_mul ho g2
      omega
    · have g1 : a ≤ D * o := by rw [← ha, hD]; exact Int.mul_le_mul_of_nonneg_left (by omega) hd
      have g2 : 0 ≤ a := by rw [← ha, hD]; exact Int.mul_nonneg hd bk.1
      have g3 := Int.ediv_le_of_le_mul ho g1
      have g4 := Int.ediv_nonneg g2 (by omega : 0 ≤ o)
      omega
  have em : mvI p q k o = p + t := by
    unfold mvI
    rw [ha, e, ht, sat_in _ (by omega) (by omega)]
  rw [em, ha, ht]
  exact ⟨rfl, by unfold btw; omega⟩
theorem mv_zero {p q o : Int} (bp : -1073741824 ≤ p ∧ p ≤ 1073741824) (bq : -1073741824 ≤ q ∧ q ≤ 1073741824) (bo : 1 ≤ o) : mvI p q 0 o = p := by
  have := (mv_is bp bq (k := 0) ⟨Int.le_refl _, by omega⟩ bo).1
  rw [this]; simp
theorem mv_mono {p q k k' o : Int} (bp : -1073741824 ≤ p ∧ p ≤ 1073741824) (bq : -1073741824 ≤ q ∧ q ≤ 1073741824) (h0 : 0 ≤ k) (hk : k ≤ k') (hko : k' ≤ o) (bo : 1 ≤ o) : btw (mvI p q k' o) (mvI p q k o) q := by
  have h1 := mv_is bp bq (k := k) ⟨h0, by omega⟩ bo
  have h2 := mv_is bp bq (k := k') ⟨by omega, hko⟩ bo
  have ho : 0 < o := by omega
  have hm : (0 ≤ q - p → (q - p) * k / o ≤ (q - p) * k' / o) ∧ (q - p ≤ 0 → (q - p) * k' / o ≤ (q - p) * k / o) :=
    ⟨fun h => Int.ediv_le_ediv ho (Int.mul_le_mul_of_nonneg_left hk h), fun h => Int.ediv_le_ediv ho (Int.mul_le_mul_of_nonpos_left h hk)⟩
  obtain ⟨u, hu⟩ : ∃ u, (q - p) * k / o = u := ⟨_, rfl⟩
  obtain ⟨v, hv⟩ : ∃ v, (q - p) * k' / o = v := ⟨_, rfl⟩
  rw [hu] at hm h1
  rw [hv] at hm h2
  obtain ⟨e1, b1⟩ := h1
  obtain ⟨e2, b2⟩ := h2
  rw [e1] at b1 ⊢
  rw [e2] at b2 ⊢
  unfold btw at *
  rcases (by omega : 0 ≤ q - p ∨ q - p ≤ 0) with h | h
  · have := hm.1 h; omega
  · have := hm.2 h; omega
/-- the tick of what is shown -/
theorem mv_tick {a b n : Int} (ha : 0 ≤ a ∧ a ≤ 1073741824) (hb : 0 ≤ b ∧ b ≤ 1073741824) (hab : a < b) (hn : 0 ≤ n ∧ n ≤ 16 * (b - a)) : mvI a b n (16 * (b - a)) = a + n / 16 := by
  rw [(mv_is (by omega) (by omega) hn (by omega)).1, Int.mul_comm 16 (b - a), Int.mul_ediv_mul_of_pos _ _ (by omega)]
theorem movC_k (n d : Int) (tc : List Cmp) (x : Cmp) : (movC n d tc x).k = x.k := by unfold movC; split <;> rfl
theorem movC_not (n d : Int) (tc : List Cmp) {x : Cmp} (h : x.k ≠ 1) : movC n d tc x = x := by unfold movC; rw [if_neg (fun h2 => h h2.1)]
theorem posOf_map (n d : Int) (tc : List Cmp) : ∀ cs : List Cmp, posOf (cs.map (movC n d tc)) = (posOf cs).map (movC n d tc)
  | [] => rfl
  | x :: l => by
    have ih := posOf_map n d tc l
    unfold posOf at ih ⊢
    rw [List.map_cons, List.find?_cons, List.find?_cons, movC_k]
    split
    · rfl
    · exact ih
theorem toCs_mem {B : Wld} {i : Int} {x : Cmp} (h : x ∈ toCs B i) : ∃ e ∈ B.es, x ∈ e.cs := by
  unfold toCs at h
  split at h
  · cases h
  · split at h
    · rename_i k _ e he
      exact ⟨e, List.mem_iff_getElem?.2 ⟨_, he⟩, h⟩
    · cases h
theorem toCs_fits {B : Wld} (hB : Valid B) (i : Int) : ∀ x ∈ toCs B i, fits x = true := fun x hx => by
  obtain ⟨e, he, h⟩ := toCs_mem hx
  exact (hB.2.2.2 e he).2.2 x h
theorem fits_rest {x : Cmp} (h : fits x = true) (hk : x.k = 1) : x.c = 0 ∧ x.d = 0 := by
  obtain ⟨k, a, b, c, d⟩ := x
  simp only at hk
  subst hk
  simp [fits, inLim, lim, tab, Cmp.v, extra] at h
  simp only
  omega
theorem movC_fits {n d : Int} {tc : List Cmp} {x : Cmp} (hx : fits x = true) (ht : ∀ y ∈ tc, fits y = true) (hn : 0 ≤ n ∧ n ≤ d) (hd : 1 ≤ d) : fits (movC n d tc x) = true := by
  unfold movC
  split
  · rename_i hc
    obtain ⟨p1, p2⟩ := fits_pos hx hc.1
    obtain ⟨q1, q2⟩ := pos_bd ht
    obtain ⟨r1, r2⟩ := fits_rest hx hc.1
    have m1 := (mv_is (p := x.a) (q := posX tc) (by omega) (by omega) hn hd).2
    have m2 := (mv_is (p := x.b) (q := posY tc) (by omega) (by omega) hn hd).2
    unfold btw at m1 m2
    rw [r1, r2, hc.1]
    exact fits_pos_of (by omega) (by omega)
  · exact hx
theorem movE_right {B : Wld} (hB : Valid B) {n d : Int} (hn : 0 ≤ n ∧ n ≤ d) (hd : 1 ≤ d) {e : Ent} (he : Right e) : Right (movE B n d e) := by
  refine ⟨he.1, ?_, fun x hx => ?_⟩
  · show Rises ((e.cs.map (movC n d (toCs B e.id))).map Cmp.k)
    rw [List.map_map, show Cmp.k ∘ movC n d (toCs B e.id) = Cmp.k from funext fun x => movC_k _ _ _ x]
    exact he.2.1
  · obtain ⟨y, hy, rfl⟩ := List.mem_map.1 hx
    exact movC_fits (he.2.2 y hy) (toCs_fits hB e.id) hn hd
theorem betw_ids (A B : Wld) (n d : Int) : (A.es.map (movE B n d)).map Ent.id = A.es.map Ent.id := by rw [List.map_map]; rfl
theorem betw_valid {A B : Wld} (hA : Valid A) (hB : Valid B) {n d : Int} (hn : 0 ≤ n ∧ n ≤ d) (hd : 1 ≤ d) : Valid (betw A B n d) := by
  unfold betw
  split
  · exact hB
  · have m := (mv_is (p := A.t) (q := B.t) (by have := hA.1; omega) (by have := hB.1; omega) hn hd).2
    unfold btw at m
    have h1 := hA.1
    have h2 := hB.1
    refine ⟨by show 0 ≤ mvI A.t B.t n d ∧ mvI A.t B.t n d ≤ 1073741824; omega, by show (A.es.map _).length ≤ _; rw [List.length_map]; exact hA.2.1, ?_, fun e he => ?_⟩
    · show Rises ((A.es.map _).map Ent.id)
      rw [betw_ids]; exact hA.2.2.1
    · obtain ⟨e', he', rfl⟩ := List.mem_map.1 he
      exact movE_right hB hn hd (hA.2.2.2 e' he')
theorem betw_zero {A B : Wld} (hA : Valid A) (hB : Valid B) {d : Int} (hd : 1 ≤ d) : betw A B 0 d = A := by
  obtain ⟨t, es⟩ := A
  unfold betw
  rw [if_neg (by omega)]
  have h1 := hA.1
  have h2 := hB.1
  have e1 : mvI t B.t 0 d = t := mv_zero (by simp only at h1; omega) (by omega) hd
  have e2 : es.map (movE B 0 d) = es := by
    rw [List.map_congr_left (g := id) (fun e he => ?_), List.map_id]
    obtain ⟨id, cs⟩ := e
    have hr := hA.2.2.2 _ he
    unfold movE
    simp only [id_eq]
    congr 1
    rw [List.map_congr_left (g := _root_.id) (fun x hx => ?_), List.map_id]
    have hf := hr.2.2 x hx
    unfold movC
    split
    · rename_i hc
      obtain ⟨p1, p2⟩ := fits_pos hf hc.1
      obtain ⟨q1, q2⟩ := pos_bd (toCs_fits hB id)
      rw [mv_zero (by omega) (by omega) hd, mv_zero (by omega) (by omega) hd]
      rfl
    · rfl
  simp only [e1, e2]
/-- the world shown n parts behind one of two worlds that follow each other -/
theorem shown_parts {H : List Wld} (hV : ValidH H) {k : Nat} {A B : Wld} (hA : H[k]? = some A) (hB : H[k + 1]? = some B) {n : Int} (hn : 0 ≤ n ∧ n ≤ 16 * (B.t - A.t)) : shownM H (A.t + n / 16) (n % 16) = .ok (betw A B n (16 * (B.t - A.t))) := by
  have vA := hV.1.1 A (List.mem_iff_getElem?.2 ⟨_, hA⟩)
  have vB := hV.1.1 B (List.mem_iff_getElem?.2 ⟨_, hB⟩)
  have hlt := tick_lt hV.1.2 (Nat.lt_succ_self k) hA hB
  have h1 := vA.1
  have h2 := vB.1
  have ok : okS H (A.t + n / 16) (n % 16) := ⟨hV, by omega, by omega⟩
  have hT : 16 * (A.t + n / 16) + n % 16 = 16 * A.t + n := by omega
  rcases (by omega : n = 0 ∨ n = 16 * (B.t - A.t) ∨ (0 < n ∧ n < 16 * (B.t - A.t))) with h | h | h
  · subst h
    rw [betw_zero vA vB (by omega)]
    exact shown_hit ok hA (by omega)
  · have e : betw A B n (16 * (B.t - A.t)) = B := by unfold betw; rw [if_pos h]
    rw [e]
    exact shown_hit ok hB (by omega)
  · have := shown_mid ok hA hB (by omega) (by omega)
    rw [this]
    congr 2 <;> omega
/-- the entity of an id, where ids rise -/
theorem find_self {es : List Ent} (h : Rises (es.map Ent.id)) {i : Nat} {e : Ent} (he : es[i]? = some e) : es.find? (fun x => decide (x.id = e.id)) = some e := by
  obtain ⟨hi, rfl⟩ := List.getElem?_eq_some_iff.1 he
  rw [List.find?_eq_some_iff_getElem]
  refine ⟨by simp, i, hi, rfl, fun j hj => ?_⟩
  have : ∀ (m j : Nat) (x y : Ent), es[j]? = some x → es[j + m + 1]? = some y → x.id < y.id := fun m => by
    induction m with
    | zero =>
      intro j x y hx hy
      have := h j (by rw [List.length_map]; have := (List.getElem?_eq_some_iff.1 hy).1; omega)
      rw [map_at Ent.id hx, map_at Ent.id hy] at this
      exact this
    | succ m ih =>
      intro j x y hx hy
      obtain ⟨z, hz⟩ := at_lt (l := es) (i := j + m + 1) (by have := (List.getElem?_eq_some_iff.1 hy).1; omega)
      have h1 := ih j x z hx hz
      have h2 := h (j + m + 1) (by rw [List.length_map]; have := (List.getElem?_eq_some_iff.1 hy).1; omega)
      rw [map_at Ent.id hz, map_at Ent.id (show es[j + m + 1 + 1]? = some y by rw [← hy]; congr 1)] at h2
      omega
  have := this (i - j - 1) j es[j] es[i] (List.getElem?_eq_getElem _) (by rw [show j + (i - j - 1) + 1 = i by omega]; exact he)
  simp only [Bool.not_eq_true', decide_eq_false_iff_not]
  omega
theorem lastK_is {es : List Ent} {i : Int} : ∀ {k : Nat}, k ≤ es.length → ∀ m, lastK es i k = m → (m = 0 ∧ ∀ j e, j < k → es[j]? = some e → e.id ≠ i) ∨ ∃ j e, m = j + 1 ∧ j < k ∧ es[j]? = some e ∧ e.id = i
  | 0, _, m, hm => .inl ⟨by rw [← hm]; rfl, fun j e hj => absurd hj (by omega)⟩
  | k + 1, hk, m, hm => by
    obtain ⟨x, hx⟩ := at_lt (l := es) (i := k) (by omega)
    by_cases hi : x.id = i
    · right
      subst hi
      rw [lastK_same hx] at hm
      exact ⟨k, x, hm.symm, by omega, hx, rfl⟩
    · rw [lastK_other hx hi] at hm
      rcases lastK_is (by omega) m hm with ⟨h1, h2⟩ | ⟨j, e, h1, h2, h3, h4⟩
      · refine .inl ⟨h1, fun j e hj he => ?_⟩
        rcases Nat.lt_succ_iff_lt_or_eq.1 hj with h | rfl
        · exact h2 j e h he
        · rw [hx] at he; cases he; exact hi
      · exact .inr ⟨j, e, h1, by omega, h3, h4⟩
theorem get_to {B : Wld} (hB : Valid B) (i : Int) : getM B i 1 = posOf (toCs B i) := by
  unfold getM toCs
  rcases lastK_is (i := i) (Nat.le_refl B.es.length) _ rfl with ⟨h1, h2⟩ | ⟨j, e, h1, h2, h3, h4⟩
  · rw [h1]
    have : B.es.find? (fun e => decide (e.id = i)) = none := by
      rw [List.find?_eq_none]
      intro e he
      obtain ⟨j, hj⟩ := List.mem_iff_getElem?.1 he
      simpa using h2 j e (List.getElem?_eq_some_iff.1 hj).1 hj
    rw [this]
    rfl
  · rw [h1]
    simp only [h3]
    subst h4
    rw [find_self hB.2.2.1 h3]
    rfl
theorem get_from {A : Wld} (hA : Valid A) {j : Nat} {q : Ent} (hq : A.es[j]? = some q) : getM A q.id 1 = posOf q.cs := by
  unfold getM
  rw [find_self hA.2.2.1 hq]
  rfl
theorem get_betw {A B : Wld} (hA : Valid A) (hB : Valid B) {n d : Int} (hn : 0 ≤ n ∧ n < d) {j : Nat} {q : Ent} (hq : A.es[j]? = some q) : (betw A B n d).es[j]? = some (movE B n d q) ∧ getM (betw A B n d) q.id 1 = (posOf q.cs).map (movC n d (toCs B q.id)) := by
  have hes : (betw A B n d).es = A.es.map (movE B n d) := by unfold betw; rw [if_neg (by omega)]
  have h1 : (betw A B n d).es[j]? = some (movE B n d q) := by rw [hes, List.getElem?_map, hq]; rfl
  refine ⟨h1, ?_⟩
  have := get_from (betw_valid hA hB (n := n) (d := d) ⟨hn.1, by omega⟩ (by omega)) h1
  rw [show (movE B n d q).id = q.id from rfl] at this
  rw [this]
  exact posOf_map _ _ _ _
/-- the components but the positions -/
def partL (cs : List Cmp) : List Cmp := cs.filter (fun x => decide (x.k ≠ 1))
theorem part_same (n d : Int) (tc : List Cmp) : ∀ cs : List Cmp, partL (cs.map (movC n d tc)) = partL cs
  | [] => rfl
  | x :: l => by
    have ih := part_same n d tc l
    unfold partL at ih ⊢
    rw [List.map_cons, List.filter_cons, List.filter_cons, movC_k, ih]
    by_cases h : x.k = 1
    · simp [h]
    · rw [movC_not _ _ _ h]
/-- the four positions of an entity -/
theorem four {A B : Wld} (hA : Valid A) (hB : Valid B) {e l d : Int} (he : 0 ≤ e) (hel : e ≤ l) (hld : l < d) {j : Nat} {q : Ent} (hq : A.es[j]? = some q) :
    ∃ (has had : Bool) (fx fy tx ty ox oy ux uy : Int), posG A q.id = .tuple #[.agg #[.int .i64 fx, .int .i64 fy], .bool has] ∧ posG B q.id = .tuple #[.agg #[.int .i64 tx, .int .i64 ty], .bool had] ∧
      posG (betw A B e d) q.id = .tuple #[.agg #[.int .i64 ox, .int .i64 oy], .bool has] ∧ posG (betw A B l d) q.id = .tuple #[.agg #[.int .i64 ux, .int .i64 uy], .bool has] ∧
      (has = true → (if had = true then btw ox fx tx ∧ btw oy fy ty ∧ btw ux ox tx ∧ btw uy oy ty else btw ox fx fx ∧ btw oy fy fy ∧ btw ux ox fx ∧ btw uy oy fy)) := by
  have g1 := get_from hA hq
  have g2 := get_to hB q.id
  have g3 := (get_betw hA hB (n := e) (d := d) ⟨he, by omega⟩ hq).2
  have g4 := (get_betw hA hB (n := l) (d := d) ⟨by omega, hld⟩ hq).2
  have hfit : ∀ x ∈ q.cs, fits x = true := (hA.2.2.2 q (List.mem_iff_getElem?.2 ⟨_, hq⟩)).2.2
  have hto := toCs_fits hB q.id
  unfold posG
  rw [g1, g2, g3, g4]
  cases hp : posOf q.cs with
  | none =>
    cases ht : posOf (toCs B q.id) with
    | none => exact ⟨_, _, _, _, _, _, _, _, _, _, rfl, rfl, rfl, rfl, fun h => by cases h⟩
    | some y => exact ⟨_, _, _, _, _, _, _, _, _, _, rfl, rfl, rfl, rfl, fun h => by cases h⟩
  | some x =>
    have hx := posOf_mem hp
    obtain ⟨p1, p2⟩ := fits_pos (hfit x hx.1) hx.2
    cases ht : posOf (toCs B q.id) with
    | none =>
      have e1 : ∀ n, movC n d (toCs B q.id) x = x := fun n => by unfold movC; rw [ht]; simp
      simp only [Option.map_some, e1]
      refine ⟨_, _, _, _, _, _, _, _, _, _, rfl, rfl, rfl, rfl, fun _ => ?_⟩
      simp only [Bool.false_eq_true, if_false]
      unfold btw
      omega
    | some y =>
      have hy := posOf_mem ht
      obtain ⟨q1, q2⟩ := fits_pos (hto y hy.1) hy.2
      have e1 : ∀ n, movC n d (toCs B q.id) x = ⟨x.k, mvI x.a y.a n d, mvI x.b y.b n d, x.c, x.d⟩ := fun n => by
        unfold movC
        rw [if_pos ⟨hx.2, by rw [ht]; rfl⟩]
        unfold posX posY
        rw [ht]
      simp only [Option.map_some, e1]
      refine ⟨_, _, _, _, _, _, _, _, _, _, rfl, rfl, rfl, rfl, fun _ => ?_⟩
      simp only [if_true]
      exact ⟨(mv_is (by omega) (by omega) ⟨he, by omega⟩ (by omega)).2, (mv_is (by omega) (by omega) ⟨he, by omega⟩ (by omega)).2, mv_mono (by omega) (by omega) he hel (by omega) (by omega), mv_mono (by omega) (by omega) he hel (by omega) (by omega)⟩
end Go.Proofs.YtjjodmkblpdnhaaDoor
