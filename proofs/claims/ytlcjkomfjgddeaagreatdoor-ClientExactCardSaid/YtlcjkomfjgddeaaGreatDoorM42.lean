/- The condition of the rows of Client (the tables' data) gives the walks' own: RG, RM. The last step of a law's row: the call makes memory and writes nothing that was there, so the arguments read as they did. Lists of any length as they come in; marcheslaw27.few and Few on them. marcheslaw27.Few on a client of any size. -/
import Derived.Test.YtlcjkomfjgddeaaGreatDoorRows
import Derived.Test.YtlcjkomfjgddeaaGreatDoorM06
import Derived.Test.YtlcjkomfjgddeaaGreatDoorM14
import Derived.ProofKit
import Derived.LaidMore
import Derived.LaidSub
import Derived.OpenShut
import Derived.Stop.Joined
import Derived.WalkKit
import Derived.Below
import Derived.ChangeSame
import Derived.Test.YtlcjkomfjgddeaaGreatDoorM39
set_option linter.unusedVariables false
set_option linter.unusedSimpArgs false
namespace Go.Proofs.YtlcjkomfjgddeaaGreatDoor
open Go Go.ChangeShapes Go.WideShapes Go.ChangeAt Go.RowKit

theorem gR : Tryz.prog.globalNamed "marches/store.ranges" = some 0 := by kernel_rfl
theorem trod_at {H : Type} {enc : TypeId × Value → H} {P : Program} {W : World} {base : Nat} {spare : Nat → Bool} {held : Bool} {fuel : Nat} {t e : TypeId} {n : Nat} {cs : List Value} {ds : List (DataW H)} {ps : List MemPlace} (ht : P.underlying t = some (.array n e)) (h : DataW.trod enc P W base spare held fuel t cs = some (.agg ds, ps)) (i : Nat) (hi : i < n) {d : DataW H} (hd : ds[i]? = some d) :
    ∃ m p, DataW.trod enc P W base spare held m e ((cs.drop (i * P.cellsOf e)).take (P.cellsOf e)) = some (d, p) := by
  obtain ⟨xs, m, rfl, hx, -, hn, hel⟩ := DataW.trod_array ht h
  simp only [Prod.mk.injEq, DataW.agg.injEq] at hx
  obtain ⟨rfl, -⟩ := hx
  rw [List.getElem?_map] at hd
  have := hel i hi
  cases hxi : xs[i]? with
  | none => rw [hxi] at hd; cases hd
  | some x =>
    rw [hxi] at hd this
    simp only [Option.map_some, Option.some.injEq] at hd
    exact ⟨m, x.2, by rw [this, ← hd]⟩
theorem tR : (Tryz.prog.globals[0]?).map (·.type) = some 127 := by kernel_rfl
theorem uR : Tryz.prog.underlying 127 = some (.array 11 126) := by kernel_rfl
theorem uS : Tryz.prog.underlying 126 = some (.array 4 125) := by kernel_rfl
theorem cT : Tryz.prog.cellsOf 125 = 2 := by kernel_rfl
theorem cS : Tryz.prog.cellsOf 126 = 8 := by kernel_rfl
theorem cI : Tryz.prog.cellsOf 3 = 1 := by kernel_rfl
theorem laid_eq {H : Type} : (Rows.laid_marches_store_ranges : DataW H) = .agg ((List.range 11).map fun i => .agg ((List.range 4).map fun r => .agg [.lit (.int .i64 (tab.getD (i * 8 + 2 * r) 0)), .lit (.int .i64 (tab.getD (i * 8 + 2 * r + 1) 0))])) := by rfl
theorem rg_of_laid {W : World} (h : laidMet Tryz.prog [("marches/store.ranges", Rows.laid_marches_store_ranges)] W) : RG W := by
  obtain ⟨ps, ⟨g0, t0, cs0, f0, p0, q0, hg0, ht0, hv0, hd0, hrest⟩, hps⟩ := h
  obtain rfl := Option.some.inj (gR.symm.trans hg0)
  obtain rfl := Option.some.inj (tR.symm.trans ht0)
  rw [laid_eq] at hd0
  intro j hj
  have hi : j / 8 < 11 := by omega
  have hr : (j / 2) % 4 < 4 := by omega
  obtain ⟨m1, p1, k1⟩ := trod_at uR hd0 (j / 8) hi (d := .agg ((List.range 4).map fun r => .agg [.lit (.int .i64 (tab.getD (j / 8 * 8 + 2 * r) 0)), .lit (.int .i64 (tab.getD (j / 8 * 8 + 2 * r + 1) 0))])) (by simp [List.getElem?_map, hi])
  obtain ⟨m2, p2, k2⟩ := trod_at uS k1 ((j / 2) % 4) hr (d := .agg [.lit (.int .i64 (tab.getD (j / 8 * 8 + 2 * ((j / 2) % 4)) 0)), .lit (.int .i64 (tab.getD (j / 8 * 8 + 2 * ((j / 2) % 4) + 1) 0))]) (by simp [List.getElem?_map, hr])
  obtain ⟨y0, y1, m3, hx, -, h0, h1⟩ := trod_struct2 Tryz.underlying125 k2
  simp only [Prod.mk.injEq, DataW.agg.injEq, List.cons.injEq, and_true] at hx
  obtain ⟨⟨hy0, hy1⟩, -⟩ := hx
  obtain ⟨v0, e0, g0, -⟩ := DataW.trod_int Tryz.underlying3 h0
  obtain ⟨v1, e1, g1, -⟩ := DataW.trod_int Tryz.underlying3 h1
  rw [g0] at hy0
  rw [g1] at hy1
  simp only [DataW.lit.injEq, Lit.int.injEq, true_and] at hy0 hy1
  rw [← hy0] at e0
  rw [← hy1] at e1
  rw [cT, cS, cI] at e0 e1
  rw [World.var?_cell gR hv0 j]
  have q0 := congrArg (fun l => l[0]?) e0
  have q1 := congrArg (fun l => l[0]?) e1
  simp only [List.getElem?_take, List.getElem?_drop, Array.getElem?_toList] at q0 q1
  rcases (by omega : j % 2 = 0 ∨ j % 2 = 1) with hs | hs
  · rw [show j / 8 * 8 + 2 * (j / 2 % 4) = j by omega] at q0
    simp [show j / 8 * 8 + (j / 2 % 4 * 2) = j by omega] at q0
    simpa using q0.2
  · rw [show j / 8 * 8 + 2 * (j / 2 % 4) + 1 = j by omega] at q1
    simp [show j / 8 * 8 + (j / 2 % 4 * 2 + 1) = j by omega] at q1
    simpa using q1.2

theorem gM : Tryz.prog.globalNamed "marches/shape.rooms" = some 1 := by kernel_rfl
theorem tM : (Tryz.prog.globals[1]?).map (·.type) = some 206 := by kernel_rfl
theorem uM : Tryz.prog.underlying 206 = some (.array 2 205) := by kernel_rfl
theorem uM2 : Tryz.prog.underlying 205 = some (.array 2 204) := by kernel_rfl
theorem cM : Tryz.prog.cellsOf 205 = 2 := by kernel_rfl
theorem cM2 : Tryz.prog.cellsOf 204 = 1 := by kernel_rfl
/-- a function's name as bytes -/
def nmOf : Nat → List UInt8
  | 0 => [109, 97, 114, 99, 104, 101, 115, 47, 115, 104, 97, 112, 101, 46, 98, 111, 120, 101, 115]
  | 1 => [109, 97, 114, 99, 104, 101, 115, 47, 115, 104, 97, 112, 101, 46, 98, 111, 120, 67, 105, 114, 99, 108, 101]
  | 2 => [109, 97, 114, 99, 104, 101, 115, 47, 115, 104, 97, 112, 101, 46, 99, 105, 114, 99, 108, 101, 66, 111, 120]
  | _ => [109, 97, 114, 99, 104, 101, 115, 47, 115, 104, 97, 112, 101, 46, 99, 105, 114, 99, 108, 101, 115]
def LD : List (String × DataW Unit) := [("marches/shape.rooms", Rows.laid_marches_shape_rooms), ("marches/store.ranges", Rows.laid_marches_store_ranges)]
theorem room_at {W : World} {f : Nat} {cs : List Value} {p : List MemPlace} (hd : DataW.trod (funcToken Tryz.prog) Tryz.prog W 0 (fun _ => true) true f 206 cs = some (.agg [.agg [.held (nmOf 0), .held (nmOf 1)], .agg [.held (nmOf 2), .held (nmOf 3)]], p)) :
    ∀ i < 2, ∀ j < 2, ∃ m q, DataW.trod (funcToken Tryz.prog) Tryz.prog W 0 (fun _ => true) true m 204 (((((cs.drop (i * 2)).take 2).drop (j * 1)).take 1)) = some (.held (nmOf (i * 2 + j)), q) := by
  intro i hi j hj
  have hd1 : ([DataW.agg [.held (nmOf 0), .held (nmOf 1)], .agg [.held (nmOf 2), .held (nmOf 3)]] : List (DataW (List UInt8)))[i]? = some (.agg [.held (nmOf (i * 2)), .held (nmOf (i * 2 + 1))]) := by
    match i, hi with
    | 0, _ => rfl
    | 1, _ => rfl
  obtain ⟨m1, p1, k1⟩ := trod_at uM hd i hi hd1
  have hd2 : ([DataW.held (nmOf (i * 2)), .held (nmOf (i * 2 + 1))] : List (DataW (List UInt8)))[j]? = some (.held (nmOf (i * 2 + j))) := by
    match j, hj with
    | 0, _ => rfl
    | 1, _ => rfl
  obtain ⟨m2, p2, k2⟩ := trod_at uM2 k1 j hj hd2
  rw [cM, cM2] at k2
  exact ⟨m2, p2, k2⟩
theorem one_func {H : Type} {enc : TypeId × Value → H} {P : Program} {W : World} {base : Nat} {sp : Nat → Bool} {m : Nat} {t : TypeId} {ps rs : Array TypeId} {va : Bool} {l : List Value} {x : DataW H × List MemPlace} (ht : P.underlying t = some (.func ps rs va)) (h : DataW.trod enc P W base sp true m t l = some x) : ∃ v, l = [v] := by
  cases m with
  | zero => simp [DataW.trod] at h
  | succ n =>
    unfold DataW.trod at h
    rw [ht] at h
    split at h <;> simp_all
theorem rm_of_laid {W : World} (h : laidMetH Tryz.prog LD W) : RM W := by
  obtain ⟨g, t, cs, fuel, p, hg, ht, hv, hd⟩ := h.funcs (n := "marches/shape.rooms") (List.mem_cons_self ..)
  obtain rfl := Option.some.inj (gM.symm.trans hg)
  obtain rfl := Option.some.inj (tM.symm.trans ht)
  have hr := room_at hd
  have key : ∀ (f0 : FuncId) (k : Nat) (b : UInt8) (r : List UInt8), k < 4 → nmOf k = b :: r → ((List.range Tryz.prog.funcs.size).filter fun f => (Tryz.prog.funcs[f]?).any (·.name.toUTF8.data.toList == b :: r)) = [f0] → W.cell? ⟨1, k, none⟩ = some (.func (.func f0) #[] #[]) := by
    intro f0 k b r hk hn hone
    obtain ⟨m, q, h1⟩ := hr (k / 2) (by omega) (k % 2) (by omega)
    rw [show k / 2 * 2 + k % 2 = k by omega, hn] at h1
    obtain ⟨v, hv1⟩ := one_func Tryz.underlying204 h1
    rw [hv1] at h1
    obtain rfl := func_of_trod Tryz.underlying204 hone h1
    rw [World.var?_cell gM hv k]
    have q0 := congrArg (fun l => l[0]?) hv1
    simp only [List.getElem?_take, List.getElem?_drop, Array.getElem?_toList] at q0
    rcases (by omega : k % 2 = 0 ∨ k % 2 = 1) with hs | hs
    · simp [hs, show k / 2 * 2 = k by omega] at q0
      simpa using q0
    · simp [hs, show k / 2 * 2 + 1 = k by omega] at q0
      simpa using q0
  exact ⟨key 162 0 _ _ (by omega) rfl (by kernel_rfl), key 163 1 _ _ (by omega) rfl (by kernel_rfl), key 164 2 _ _ (by omega) rfl (by kernel_rfl), key 165 3 _ _ (by omega) rfl (by kernel_rfl)⟩
theorem of_laid {W : World} (h : laidMetH Tryz.prog LD W) : RG W ∧ RM W :=
  ⟨rg_of_laid (laidMetH_iff.1 h).1, rm_of_laid h⟩
end Go.Proofs.YtlcjkomfjgddeaaGreatDoor
namespace Go.Proofs.YtlcjkomfjgddeaaGreatDoor
open Go.RowKit Go.WideShapes Go.ChangeShapes

theorem law_post {H : Type} {enc : TypeId × Value → H} {P : Program} {f : Func} {s : ChangeSpec} {W W' : World} {args : Array Value} {v : Value} {ds gs : List (DataW H)} {pa pv : List MemPlace}
    (hW : DataW.Whole enc P f.params.toList s.vars false W args.toList ds gs (pa ++ pv)) (hb : Below W.heap.size W W')
    (hres : ∀ (b : Nat) (sp : Nat → Bool) (hd : Bool), DataW.TrodAll enc P W' b sp hd f.resultTypes.toList (v.resultList f.resultTypes.size) (s.fn H (ds ++ gs)).results [])
    (hargs : ∀ sp : Nat → Bool, (∀ p ∈ pa ++ pv, sp p.block = true) → DataW.TrodAll enc P W' 0 sp true f.params.toList args.toList (s.fn H (ds ++ gs)).args pa)
    (hvars : ∀ sp : Nat → Bool, (∀ p ∈ pa ++ pv, sp p.block = true) → DataW.TrodVars enc P W' sp s.vars (s.fn H (ds ++ gs)).vars pv) :
    s.post enc P f false true false false W args v W' := by
  have old : ∀ p ∈ pa ++ pv, decide (p.block < W.heap.size) = true := fun p hp => decide_eq_true (hW.lt p hp)
  exact ⟨ds, gs, pa ++ pv, [], pa, pv, hW, hres _ _ _, hargs _ old, hvars _ old, World.keptBut_mono (fun p hp => ⟨hp, .inr (List.mem_append.1 hp)⟩) (hb.frame (· ∈ pa ++ pv)), fun h => absurd h (by decide)⟩
end Go.Proofs.YtlcjkomfjgddeaaGreatDoor
namespace Go.Proofs.YtlcjkomfjgddeaaGreatDoor
open Go Go.RowKit Go.Sort
set_option maxRecDepth 100000
attribute [local go_sem] opLow opUpon opLow2 opUpon2

/-- a list that came in, of any length -/
def SlRaw (P : World → Nat → Nat → Prop) (sz : Nat) (w : World) (v : Value) : Prop :=
  (∃ a, v = .slice a 0 0) ∨ ∃ b off n cap, v = .slice (some ⟨b, off, none⟩) n cap ∧ n ≤ cap ∧ cap ≤ maxLen ∧ ∀ i, i < n → P w b (off + i * sz)
def CompRaw (w : World) (b o : Nat) : Prop := ∃ x, CompAt w b o x
def EntRaw (w : World) (b o : Nat) : Prop := ∃ id a n c, w.cell? ⟨b, o, none⟩ = some (.int .i64 id) ∧ w.cell? ⟨b, o + 1, none⟩ = some (.slice a n c) ∧ SlRaw CompRaw 5 w (.slice a n c)
def EntsRaw : World → Value → Prop := SlRaw EntRaw 2
def InpRaw (w : World) (b o : Nat) : Prop := ∃ x, InpAt w b o x ∧ I64 x.mx ∧ I64 x.my
def InpsRaw : World → Value → Prop := SlRaw InpRaw 10
theorem choose_list {α : Type} {Q : Nat → α → Prop} : ∀ (n : Nat), (∀ i, i < n → ∃ x, Q i x) → ∃ l : List α, l.length = n ∧ ∀ i x, l[i]? = some x → Q i x
  | 0, _ => ⟨[], rfl, fun i x h => by simp at h⟩
  | n + 1, h => by
    obtain ⟨l, hl, hq⟩ := choose_list n (fun i hi => h i (by omega))
    obtain ⟨x, hx⟩ := h n (by omega)
    refine ⟨l ++ [x], by simp [hl], fun i y hy => ?_⟩
    by_cases hi : i < n
    · rw [List.getElem?_append_left (by omega)] at hy
      exact hq i y hy
    · rw [List.getElem?_append_right (by omega)] at hy
      have hj := (List.getElem?_eq_some_iff.1 hy).1
      simp at hj
      have : i = n := by omega
      subst this
      rw [hl, Nat.sub_self] at hy
      simp at hy
      subst hy; exact hx
theorem SlRaw.list {α : Type} {P : World → Nat → Nat → Prop} {Q : World → Nat → Nat → α → Prop} {sz : Nat} {w : World} {a : Option Addr} {n cap : Nat} (h : SlRaw P sz w (.slice a n cap)) (hn : n < 1099511627776) (hP : ∀ b off i, a = some ⟨b, off, none⟩ → i < n → P w b (off + i * sz) → ∃ x, Q w b (off + i * sz) x) : ∃ l : List α, ListAt Q sz w (.slice a n cap) l := by
  rcases h with h1 | ⟨b, off, n', cap', h1, h2, h3, h4⟩
  · exact ⟨[], .inl ⟨h1, rfl⟩⟩
  · injection h1 with e1 e2 e3
    subst e1 e2 e3
    obtain ⟨l, hl, hq⟩ := choose_list (Q := fun i x => Q w b (off + i * sz) x) n (fun i hi => hP b off i rfl hi (h4 i hi))
    exact ⟨l, .inr ⟨b, off, cap, by rw [hl], by omega, hq⟩⟩
theorem SlRaw.below {P : World → Nat → Nat → Prop} {sz : Nat} {w w' : World} {v : Value} (hP : ∀ b o, P w b o → P w' b o) (h : SlRaw P sz w v) : SlRaw P sz w' v := by
  rcases h with h1 | ⟨b, off, n', cap', h1, h2, h3, h4⟩
  · exact .inl h1
  · exact .inr ⟨b, off, n', cap', h1, h2, h3, fun i hi => hP b _ (h4 i hi)⟩
theorem EntsRaw.below {w w' : World} {v : Value} (h : EntsRaw w v) (hb : Below w.heap.size w w') : EntsRaw w' v :=
  SlRaw.below (fun b o ⟨id, a, n, c, h1, h2, h3⟩ => ⟨id, a, n, c, cell_later hb h1, cell_later hb h2, SlRaw.below (fun b o ⟨x, hx⟩ => ⟨x, CompAt.below hb b o x hx⟩) h3⟩) h
/-- that no list of components is too long -/
def SmallE (w : World) (a : Option Addr) (n : Nat) : Prop := n < 1099511627776 ∧ ∀ b off i id xa xn xc, a = some ⟨b, off, none⟩ → i < n → w.cell? ⟨b, off + i * 2, none⟩ = some (.int .i64 id) → w.cell? ⟨b, off + i * 2 + 1, none⟩ = some (.slice xa xn xc) → xn < 1099511627776
theorem EntsRaw.list {w : World} {a : Option Addr} {n c : Nat} (h : EntsRaw w (.slice a n c)) (hs : SmallE w a n) : ∃ es, EntsAt w (.slice a n c) es :=
  SlRaw.list h hs.1 (fun b off i ha hi ⟨id, xa, xn, xc, h1, h2, h3⟩ => by
    obtain ⟨l, hl⟩ := SlRaw.list (Q := CompAt) h3 (hs.2 b off i id xa xn xc ha hi h1 h2) (fun b' off' j _ _ ⟨x, hx⟩ => ⟨x, hx⟩)
    exact ⟨⟨id, l⟩, h1, xa, xn, xc, h2, hl⟩)
theorem InpsRaw.list {w : World} {a : Option Addr} {n c : Nat} (h : InpsRaw w (.slice a n c)) (hn : n < 1099511627776) : ∃ l, InpsAt w (.slice a n c) l ∧ I64s l := by
  obtain ⟨l, hl⟩ := SlRaw.list (Q := fun w b o x => InpAt w b o x ∧ I64 x.mx ∧ I64 x.my) h hn (fun b off i _ _ ⟨x, hx⟩ => ⟨x, hx⟩)
  refine ⟨l, ?_, ?_⟩
  · rcases hl with h1 | ⟨b, off, cap, h1, h2, h3⟩
    · exact .inl h1
    · exact .inr ⟨b, off, cap, h1, h2, fun i x hx => (h3 i x hx).1⟩
  · intro x hx
    obtain ⟨i, hi⟩ := List.mem_iff_getElem?.1 hx
    rcases hl with ⟨_, h2⟩ | ⟨b, off, cap, h1, h2, h3⟩
    · rw [h2] at hi; simp at hi
    · exact (h3 i x hi).2
/-- some answer, and true only of few -/
def FewB (w : World) (a : Option Addr) (n : Nat) (e : Ending) (w' : World) : Prop := ∃ b : Bool, e = .returned (.bool b) ∧ (b = true → SmallE w a n) ∧ Below w.heap.size w w'
def SmallTo (w : World) (a : Option Addr) (k : Nat) : Prop := ∀ b off i xa xn xc, a = some ⟨b, off, none⟩ → i < k → w.cell? ⟨b, off + i * 2 + 1, none⟩ = some (.slice xa xn xc) → xn < 1099511627776
theorem SmallTo.next {w : World} {b off k : Nat} {xa : Option Addr} {xn xc : Nat} (h : SmallTo w (some ⟨b, off, none⟩) k) (hx : w.cell? ⟨b, off + k * 2 + 1, none⟩ = some (.slice xa xn xc)) (hn : xn < 1099511627776) : SmallTo w (some ⟨b, off, none⟩) (k + 1) := by
  intro b' off' i ya yn yc ha hi hy
  cases ha
  by_cases hik : i < k
  · exact h b off i ya yn yc rfl hik hy
  · have : i = k := by omega
    subst this
    rw [hx] at hy
    cases hy
    exact hn
set_option maxHeartbeats 8000000 in
theorem few_raw (t : Int) (a : Option Addr) (n c : Nat) (w : World) (h : EntsRaw w (.slice a n c)) :
    Calls Tryz.prog 30 #[Wv t a n c] w (FewB w a n) := by
  have hm : n ≤ 9223372036854775807 := by
    rcases h with ⟨a0, h1⟩ | ⟨b, off, n', cap', h1, h2, h3, _⟩
    · injection h1 with _ e2 _; omega
    · injection h1 with _ e2 _; unfold maxLen at h3; omega
  have HH := Lib.hid h
  clear h
  unfold Wv
  by_cases h8 : 8 < n
  · have d1 : decide ((n : Int) > 8) = true := decide_eq_true (by omega)
    have d1' : decide (8 < n) = true := decide_eq_true h8
    go_enter Tryz.func30, Tryz.ntmps30
    go_wp2
    go_returns
    exact ⟨false, rfl, (fun q => by cases q), by go_grown⟩
  have d1 : decide ((n : Int) > 8) = false := decide_eq_false (by omega)
  have d1' : decide (8 < n) = false := decide_eq_false h8
  have hn8 : n ≤ 8 := by omega
  clear h8
  go_enter Tryz.func30, Tryz.ntmps30
  go_wp2
  go_loopw [14] (fun v14 wr => ∃ k : Nat, (k ≤ n ∧ v14 = .int .i64 k) ∧ Below w.heap.size w wr ∧ Hid (SmallTo w a k)) (fun v14 _ => n - (intOf v14).toNat)
  case atStart => exact ⟨0, ⟨by omega, rfl⟩, by go_grown, Lib.hid (fun b off i xa xn xc ha hi => absurd hi (by omega))⟩
  case round =>
    obtain ⟨k, ⟨hk, rfl⟩, hb, HST⟩ := hrel
    by_cases hlt : k < n
    · rcases HH.out with ⟨a0, h1⟩ | ⟨b, off, n', cap, h1, hl1, hl2, hc⟩
      · injection h1 with _ e2 _; omega
      injection h1 with w1 w2 w3
      subst w1 w2 w3
      obtain ⟨xid, xa, xn, xc, x0, x1, hx1⟩ := hc k hlt
      have hxm : xn ≤ 9223372036854775807 := by
        rcases hx1 with ⟨a0, h1⟩ | ⟨b', off', n', cap', h1, h2, h3, _⟩
        · injection h1 with _ e2 _; omega
        · injection h1 with _ e2 _; unfold maxLen at h3; omega
      have HX := Lib.hid hx1
      have HXC := Lib.hid (And.intro x0 x1)
      replace x0 := cell_later hb x0
      replace x1 := cell_later hb x1
      have hs := hb.size
      clear hl1 hl2 hc hx1
      by_cases h12 : 12 < xn
      · have d2 : decide ((xn : Int) > 12) = true := decide_eq_true (by omega)
        have d2' : decide (12 < xn) = true := decide_eq_true h12
        go_wp2
        go_returns
        exact ⟨false, rfl, (fun q => by cases q), hb.alloc hs _⟩
      have d2 : decide ((xn : Int) > 12) = false := decide_eq_false (by omega)
      have d2' : decide (12 < xn) = false := decide_eq_false h12
      have hn12 : xn ≤ 12 := by omega
      clear h12
      obtain ⟨wo, hwo⟩ : ∃ wo : World, wo = wr := ⟨_, rfl⟩
      subst hwo
      go_wp2
      go_loopw [25] (fun v25 wr => ∃ j : Nat, (j ≤ xn ∧ v25 = .int .i64 j) ∧ Below w.heap.size w wr) (fun v25 _ => xn - (intOf v25).toNat)
      case atStart => exact ⟨0, ⟨by omega, rfl⟩, hb.alloc hs _⟩
      case round =>
        obtain ⟨j, ⟨hj, rfl⟩, hb2⟩ := hrel
        clear x0 x1
        have hs2 := hb2.size
        by_cases hltj : j < xn
        · rcases HX.out with ⟨a0, h1⟩ | ⟨b2, off2, n2, cap2, h1, hl1, hl2, hc⟩
          · injection h1 with _ e2 _; omega
          injection h1 with w1 w2 w3
          subst w1 w2 w3
          obtain ⟨z, ⟨z0, z1, z2, z3, z4⟩, -⟩ := hc j hltj
          clear hl1 hl2 hc
          replace z0 := cell_later hb2 z0
          replace z1 := cell_later hb2 z1
          replace z2 := cell_later hb2 z2
          replace z3 := cell_later hb2 z3
          replace z4 := cell_later hb2 z4
          by_cases e2 : z.k = 2
          · have c0 : ((z.k : Int) == 2) = true := by simpa using e2
            by_cases l1 : z.a < -300
            · have c1 : decide (z.a < -300) = true := decide_eq_true l1
              clear e2 l1
              go_wp2
              go_returns
              exact ⟨false, rfl, (fun q => by cases q), hb2.alloc hs2 _⟩
            have c1 : decide (z.a < -300) = false := decide_eq_false l1
            by_cases l2 : 300 < z.a
            · have c2 : decide (300 < z.a) = true := decide_eq_true l2
              clear e2 l1 l2
              go_wp2
              go_returns
              exact ⟨false, rfl, (fun q => by cases q), hb2.alloc hs2 _⟩
            have c2 : decide (300 < z.a) = false := decide_eq_false l2
            by_cases l3 : z.b < -300
            · have c3 : decide (z.b < -300) = true := decide_eq_true l3
              clear e2 l1 l2 l3
              go_wp2
              go_returns
              exact ⟨false, rfl, (fun q => by cases q), hb2.alloc hs2 _⟩
            have c3 : decide (z.b < -300) = false := decide_eq_false l3
            by_cases l4 : 300 < z.b
            · have c4 : decide (300 < z.b) = true := decide_eq_true l4
              clear e2 l1 l2 l3 l4
              go_wp2
              go_returns
              exact ⟨false, rfl, (fun q => by cases q), hb2.alloc hs2 _⟩
            have c4 : decide (300 < z.b) = false := decide_eq_false l4
            clear e2 l1 l2 l3 l4
            go_wp2
            go_roundw
            case rel => exact ⟨j + 1, ⟨by omega, by go_num⟩, hb2.alloc hs2 _⟩
            case measure => simp [intOf]; omega
          · have c0 : ((z.k : Int) == 2) = false := by simpa using e2
            clear e2
            go_wp2
            go_roundw
            case rel => exact ⟨j + 1, ⟨by omega, by go_num⟩, hb2.alloc hs2 _⟩
            case measure => simp [intOf]; omega
        · go_wp2
          go_roundw
          case rel => exact ⟨k + 1, ⟨by omega, by go_num⟩, hb2, Lib.hid (HST.out.next HXC.out.2 (by omega))⟩
          case measure => simp [intOf]; omega
    · go_wp2
      go_returns
      exact ⟨true, rfl, (fun _ => ⟨by omega, fun b off i id xa xn xc ha hi h1 h2 => HST.out b off i xa xn xc ha (by omega) h2⟩), hb⟩
end Go.Proofs.YtlcjkomfjgddeaaGreatDoor
namespace Go.Proofs.YtlcjkomfjgddeaaGreatDoor
open Go Go.RowKit Go.Sort
set_option maxRecDepth 100000
attribute [local go_sem] opLow opUpon opLow2 opUpon2

/-- what holds of a later world holds of the first -/
theorem SmallE.back {w V : World} {a : Option Addr} {n c : Nat} (h : SmallE V a n) (hr : EntsRaw w (.slice a n c)) (hb : Below w.heap.size w V) : SmallE w a n := by
  refine ⟨h.1, fun b off i id xa xn xc ha hi h1 h2 => h.2 b off i id xa xn xc ha hi (cell_later hb h1) (cell_later hb h2)⟩
/-- some answer, and true only of few -/
def FewC (w : World) (a : Option Addr) (n pn : Nat) (e : Ending) (w' : World) : Prop := ∃ b : Bool, e = .returned (.bool b) ∧ (b = true → SmallE w a n ∧ pn ≤ 66) ∧ Below w.heap.size w w'
theorem Few_raw (id gx gy t ack : Int) (a : Option Addr) (n cap : Nat) (pa : Option Addr) (pn pc : Nat) (w : World) (h : EntsRaw w (.slice a n cap)) (hp : InpsRaw w (.slice pa pn pc)) :
    Calls Tryz.prog 9 #[.agg #[.int .i64 id, .int .i64 gx, .int .i64 gy, .int .i64 t, .slice a n cap, .int .i64 ack, .slice pa pn pc]] w (FewC w a n pn) := by
  have hpm : pn ≤ 9223372036854775807 := by
    rcases hp with ⟨a0, h1⟩ | ⟨b, off, n', cap', h1, h2, h3, _⟩
    · injection h1 with _ e2 _; omega
    · injection h1 with _ e2 _; unfold maxLen at h3; omega
  have FW := Lib.hid (fun V (hV : Below w.heap.size w V) => few_raw t a n cap V (h.below hV))
  have HRS := Lib.hid h
  clear h hp
  have key : (decide (6 < pn) = true ∧ decide (pn ≤ 64) = true) ∨ (decide (6 < pn) = true ∧ decide (pn ≤ 64) = false ∧ decide (66 < pn) = true) ∨ (decide (6 < pn) = true ∧ decide (pn ≤ 64) = false ∧ decide (66 < pn) = false) ∨ (decide (6 < pn) = false ∧ decide (66 < pn) = false) := by
    simp only [decide_eq_true_eq, decide_eq_false_iff_not]
    omega
  rcases key with ⟨c1, c2⟩ | ⟨c1, c2, c3⟩ | ⟨c1, c2, c3⟩ | ⟨c1, c3⟩
  · have e1 : decide ((6 : Int) < (pn : Int)) = true := by rw [decide_eq_true_eq] at c1 ⊢; omega
    have e2 : decide ((pn : Int) ≤ (64 : Int)) = true := by rw [decide_eq_true_eq] at c2 ⊢; omega
    go_enter Tryz.func9, Tryz.ntmps9
    go_wp2
    go_returns
    exact ⟨false, rfl, (fun q => by cases q), by go_grown⟩
  · have e1 : decide ((6 : Int) < (pn : Int)) = true := by rw [decide_eq_true_eq] at c1 ⊢; omega
    have e2 : decide ((pn : Int) ≤ (64 : Int)) = false := by rw [decide_eq_false_iff_not] at c2 ⊢; omega
    have e3 : decide ((66 : Int) < (pn : Int)) = true := by rw [decide_eq_true_eq] at c3 ⊢; omega
    go_enter Tryz.func9, Tryz.ntmps9
    go_wp2
    go_returns
    exact ⟨false, rfl, (fun q => by cases q), by go_grown⟩
  · have e1 : decide ((6 : Int) < (pn : Int)) = true := by rw [decide_eq_true_eq] at c1 ⊢; omega
    have e2 : decide ((pn : Int) ≤ (64 : Int)) = false := by rw [decide_eq_false_iff_not] at c2 ⊢; omega
    have e3 : decide ((66 : Int) < (pn : Int)) = false := by rw [decide_eq_false_iff_not] at c3 ⊢; omega
    obtain ⟨u, hu⟩ : ∃ u, IntKind.i64.wrap (-gx) = u := ⟨_, rfl⟩
    obtain ⟨v, hv⟩ : ∃ v, IntKind.i64.wrap (-gy) = v := ⟨_, rfl⟩
    obtain ⟨m, hm⟩ : ∃ m, max gx (max gy (max u v)) = m := ⟨_, rfl⟩
    have HM := Lib.hid hm
    clear hm
    have keyg : (decide (m ≤ 300) = true) ∨ (decide (m ≤ 300) = false ∧ decide (4096 < m) = true) ∨ (decide (m ≤ 300) = false ∧ decide (4096 < m) = false) := by
      rcases decide (m ≤ 300) with _ | _
      · rcases decide (4096 < m) with _ | _
        · exact .inr (.inr ⟨rfl, rfl⟩)
        · exact .inr (.inl ⟨rfl, rfl⟩)
      · exact .inl rfl
    have HK := Lib.hid keyg
    clear keyg
    go_enter Tryz.func9, Tryz.ntmps9
    go_wp2_with (refine wpList_max4 _ _ _ _ _ _ rfl _ _ _ _ _ rfl rfl rfl rfl (by simp [Region.wanted]; done) ?_; rw [HM.out])
    refine (FW.out _ (by go_grown)).mono ?_
    rintro e V ⟨b, rfl, hsm, hb1⟩
    have HSM := Lib.hid (fun q => (hsm q).back HRS.out (by go_grown))
    have hp66 : pn ≤ 66 := by
      simp only [decide_eq_false_iff_not] at c3
      omega
    clear hsm
    have hb : Below w.heap.size w V := ((Below.refl w.heap.size w).alloc (Nat.le_refl _) _).trans (hb1.mono (by simp))
    clear hb1 FW hu hv
    cases b
    · go_wp2
      go_returns
      exact ⟨false, rfl, (fun q => by cases q), hb⟩
    · rcases HK.out with g1 | ⟨g1, g2⟩ | ⟨g1, g2⟩
      · go_wp2
        go_returns
        exact ⟨true, rfl, (fun _ => ⟨HSM.out (by simp), hp66⟩), hb⟩
      · go_wp2
        go_returns
        exact ⟨true, rfl, (fun _ => ⟨HSM.out (by simp), hp66⟩), hb⟩
      · go_wp2
        go_returns
        exact ⟨false, rfl, (fun q => by cases q), hb⟩
  · have e1 : decide ((6 : Int) < (pn : Int)) = false := by rw [decide_eq_false_iff_not] at c1 ⊢; omega
    have e3 : decide ((66 : Int) < (pn : Int)) = false := by rw [decide_eq_false_iff_not] at c3 ⊢; omega
    obtain ⟨u, hu⟩ : ∃ u, IntKind.i64.wrap (-gx) = u := ⟨_, rfl⟩
    obtain ⟨v, hv⟩ : ∃ v, IntKind.i64.wrap (-gy) = v := ⟨_, rfl⟩
    obtain ⟨m, hm⟩ : ∃ m, max gx (max gy (max u v)) = m := ⟨_, rfl⟩
    have HM := Lib.hid hm
    clear hm
    have keyg : (decide (m ≤ 300) = true) ∨ (decide (m ≤ 300) = false ∧ decide (4096 < m) = true) ∨ (decide (m ≤ 300) = false ∧ decide (4096 < m) = false) := by
      rcases decide (m ≤ 300) with _ | _
      · rcases decide (4096 < m) with _ | _
        · exact .inr (.inr ⟨rfl, rfl⟩)
        · exact .inr (.inl ⟨rfl, rfl⟩)
      · exact .inl rfl
    have HK := Lib.hid keyg
    clear keyg
    go_enter Tryz.func9, Tryz.ntmps9
    go_wp2_with (refine wpList_max4 _ _ _ _ _ _ rfl _ _ _ _ _ rfl rfl rfl rfl (by simp [Region.wanted]; done) ?_; rw [HM.out])
    refine (FW.out _ (by go_grown)).mono ?_
    rintro e V ⟨b, rfl, hsm, hb1⟩
    have HSM := Lib.hid (fun q => (hsm q).back HRS.out (by go_grown))
    have hp66 : pn ≤ 66 := by
      simp only [decide_eq_false_iff_not] at c3
      omega
    clear hsm
    have hb : Below w.heap.size w V := ((Below.refl w.heap.size w).alloc (Nat.le_refl _) _).trans (hb1.mono (by simp))
    clear hb1 FW hu hv
    cases b
    · go_wp2
      go_returns
      exact ⟨false, rfl, (fun q => by cases q), hb⟩
    · rcases HK.out with g1 | ⟨g1, g2⟩ | ⟨g1, g2⟩
      · go_wp2
        go_returns
        exact ⟨true, rfl, (fun _ => ⟨HSM.out (by simp), hp66⟩), hb⟩
      · go_wp2
        go_returns
        exact ⟨true, rfl, (fun _ => ⟨HSM.out (by simp), hp66⟩), hb⟩
      · go_wp2
        go_returns
        exact ⟨false, rfl, (fun q => by cases q), hb⟩
/-- too large a client is no small one -/
theorem Few_big (id gx gy t ack : Int) (a : Option Addr) (n cap : Nat) (pa : Option Addr) (pn pc : Nat) (w : World) (h : EntsRaw w (.slice a n cap)) (hp : InpsRaw w (.slice pa pn pc)) (hbig : ¬ (SmallE w a n ∧ pn ≤ 66)) :
    Calls Tryz.prog 9 #[.agg #[.int .i64 id, .int .i64 gx, .int .i64 gy, .int .i64 t, .slice a n cap, .int .i64 ack, .slice pa pn pc]] w fun e w' => e = .returned (.bool false) ∧ Below w.heap.size w w' :=
  (Few_raw id gx gy t ack a n cap pa pn pc w h hp).mono fun e w' ⟨b, he, hs, hb⟩ => by
    cases b
    · exact ⟨he, hb⟩
    · exact absurd (hs rfl) hbig
end Go.Proofs.YtlcjkomfjgddeaaGreatDoor
