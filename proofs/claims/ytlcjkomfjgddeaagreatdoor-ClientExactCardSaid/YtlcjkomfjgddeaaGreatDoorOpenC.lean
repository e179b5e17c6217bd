/- A client, an input, a list of bytes, as the rows hand them over: what the walks ask of them. -/
import Derived.Test.YtlcjkomfjgddeaaGreatDoorM42
import Derived.Lib.SmallJoins
set_option linter.unusedVariables false
set_option linter.unusedSimpArgs false
namespace Go.Proofs.YtlcjkomfjgddeaaGreatDoor
open Go Go.ChangeShapes Go.WideShapes Go.ChangeAt Go.RowKit Go.Joins
set_option maxRecDepth 100000

theorem wf_i64o {n : Int} (h : (Lit.int .i64 n).wf = true) : I64 n := by
  unfold I64
  simp [Lit.wf, IntKind.min, IntKind.max, IntKind.signed, IntKind.bits] at h
  omega
theorem wf_u8o {n : Int} (h : (Lit.int .u8 n).wf = true) : 0 ≤ n ∧ n ≤ 255 := by
  simp [Lit.wf, IntKind.min, IntKind.max, IntKind.signed, IntKind.bits] at h
  omega
theorem wf_u16o {n : Int} (h : (Lit.int .u16 n).wf = true) : 0 ≤ n ∧ n ≤ 65535 := by
  simp [Lit.wf, IntKind.min, IntKind.max, IntKind.signed, IntKind.bits] at h
  omega
theorem trod_bool' {H : Type} {enc : TypeId × Value → H} {P : Program} {W : World} {base : Nat} {sp : Nat → Bool} {hd : Bool} {fuel : Nat} {t : TypeId} {cs : List Value} {x : DataW H × List MemPlace} (ht : P.underlying t = some .bool) (h : DataW.trod enc P W base sp hd fuel t cs = some x) : ∃ b, cs = [.bool b] := by
  cases fuel with
  | zero => simp [DataW.trod] at h
  | succ n =>
    unfold DataW.trod at h
    rw [ht] at h
    split at h <;> simp_all
theorem heap2 {W : World} (h : RM W) : 2 ≤ W.heap.size := by
  rcases Nat.lt_or_ge 1 W.heap.size with h1 | h1
  · exact h1
  · exfalso
    have h0 := h.1
    unfold World.cell? at h0
    rw [show W.heap[1]? = none from Array.getElem?_eq_none h1] at h0
    simp at h0
section
variable {H : Type} {enc : TypeId × Value → H} {W : World}
/-- what a row's reach says of a value that lies inside -/
noncomputable abbrev TR (enc : TypeId × Value → H) (W : World) (m : Nat) (t : TypeId) (cs : List Value) : Option (DataW H × List MemPlace) := DataW.trod enc Tryz.prog W 0 (fun _ => true) true m t cs
theorem raw_slice {Pr : World → Nat → Nat → Prop} {sz : Nat} {t e : TypeId} {fuel : Nat} {cs : List Value} {x : DataW H × List MemPlace} (ht : Tryz.prog.underlying t = some (.slice e)) (hc : Tryz.prog.cellsOf e = sz) (hsz : 0 < sz)
    (hP : ∀ b off m cs y, (∀ j, j < sz → W.cell? ⟨b, off + j, none⟩ = cs[j]?) → cs.length = sz → TR enc W m e cs = some y → Pr W b off)
    (h : TR enc W fuel t cs = some x) : ∃ a n c, cs = [.slice a n c] ∧ SlRaw Pr sz W (.slice a n c) ∧ n ≤ c := by
  rcases DataW.trod_slice ht h with ⟨h0, _⟩ | ⟨a, len, cap, elems, rest, n, _, rfl, _, hb, hl, hm, hlen, hel, hsp, _⟩
  · exact ⟨none, 0, 0, h0, .inl ⟨none, rfl⟩, Nat.le_refl _⟩
  · refine ⟨some a, len, cap, rfl, ?_, hl⟩
    rw [hc] at hel hsp
    obtain ⟨hrl, hr⟩ := hsp rfl
    rcases Nat.eq_zero_or_pos cap with h0 | h0
    · subst h0
      obtain rfl : len = 0 := by omega
      exact .inl ⟨_, rfl⟩
    have key : ∀ i y, i = 0 → (W.cells? 0 (a.add (i * sz)) sz).bind (DataW.trod enc Tryz.prog W 0 (fun _ => true) true n e) = some y → a.spot = none := by
      rintro i y rfl hy
      obtain ⟨cs', h1, h2⟩ := Option.bind_eq_some_iff.1 hy
      obtain ⟨-, h3, h4⟩ := World.cells?_some h1
      have h5 := h4 0 hsz
      have h6 : ∃ v, cs'[0]? = some v := ⟨cs'[0], List.getElem?_eq_getElem (by omega)⟩
      obtain ⟨v, hv⟩ := h6
      rw [hv] at h5
      simpa [Addr.add] using World.cell?_spot h5
    have hspot : a.spot = none := by
      rcases Nat.eq_zero_or_pos len with hz | hz
      · subst hz
        exact key (0 + 0) _ rfl ((hr 0 (by omega)).trans (List.getElem?_eq_getElem (by omega)))
      · exact key 0 _ rfl ((hel 0 hz).trans (List.getElem?_eq_getElem (by omega)))
    obtain ⟨b, off, spot⟩ := a
    simp only at hspot
    subst hspot
    refine .inr ⟨b, off, len, cap, rfl, hl, hm, fun i hi => ?_⟩
    have hy := (hel i hi).trans (List.getElem?_eq_getElem (by omega))
    obtain ⟨cs', h1, h2⟩ := Option.bind_eq_some_iff.1 hy
    obtain ⟨-, h3, h4⟩ := World.cells?_some h1
    refine hP b (off + i * sz) n cs' _ (fun j hj => ?_) h3 h2
    have := h4 j hj
    rw [← this, ← Go.WideShapes.add_plain, ← Go.WideShapes.add_plain]
theorem cC : Tryz.prog.cellsOf 48 = 5 := by kernel_rfl
theorem cE : Tryz.prog.cellsOf 43 = 2 := by kernel_rfl
theorem cIn : Tryz.prog.cellsOf 37 = 10 := by kernel_rfl
theorem cV4 : Tryz.prog.cellsOf 46 = 4 := by kernel_rfl
theorem cU8 : Tryz.prog.cellsOf 5 = 1 := by kernel_rfl
theorem cSl : Tryz.prog.cellsOf 41 = 1 := by kernel_rfl
theorem cSE : Tryz.prog.cellsOf 24 = 1 := by kernel_rfl
theorem cSI : Tryz.prog.cellsOf 27 = 1 := by kernel_rfl
theorem cVc : Tryz.prog.cellsOf 23 = 2 := by kernel_rfl
theorem cWo : Tryz.prog.cellsOf 26 = 2 := by kernel_rfl
theorem cBo : Tryz.prog.cellsOf 4 = 1 := by kernel_rfl
theorem cCl : Tryz.prog.cellsOf 29 = 7 := by kernel_rfl
theorem list2 {α : Type} {l : List α} (h : l.length = 2) : ∃ a b, l = [a, b] := by
  match l, h with
  | [a, b], _ => exact ⟨a, b, rfl⟩
theorem list5 {α : Type} {l : List α} (h : l.length = 5) : ∃ a b c d e, l = [a, b, c, d, e] := by
  match l, h with
  | [a, b, c, d, e], _ => exact ⟨a, b, c, d, e, rfl⟩
theorem list7 {α : Type} {l : List α} (h : l.length = 7) : ∃ a b c d e f g, l = [a, b, c, d, e, f, g] := by
  match l, h with
  | [a, b, c, d, e, f, g], _ => exact ⟨a, b, c, d, e, f, g, rfl⟩
theorem list10 {α : Type} {l : List α} (h : l.length = 10) : ∃ a b c d e f g i j k, l = [a, b, c, d, e, f, g, i, j, k] := by
  match l, h with
  | [a, b, c, d, e, f, g, i, j, k], _ => exact ⟨a, b, c, d, e, f, g, i, j, k, rfl⟩
theorem some_get {α : Type} {l : List α} {i : Nat} (h : i < l.length) : ∃ x, l[i]? = some x := ⟨_, List.getElem?_eq_getElem h⟩
theorem one_int {m : Nat} {cs : List Value} {x : DataW H × List MemPlace} (h : TR enc W m 3 cs = some x) : ∃ n, cs = [.int .i64 n] ∧ I64 n := by
  obtain ⟨n, rfl, -, hw⟩ := DataW.trod_int Tryz.underlying3 h
  exact ⟨n, rfl, wf_i64o hw⟩
/-- the cells of a component -/
theorem comp_cells {m : Nat} {cs : List Value} {x : DataW H × List MemPlace} (h : TR enc W m 48 cs = some x) : ∃ c : Cmp, cs = [.int .u8 c.k, .int .i64 c.a, .int .i64 c.b, .int .i64 c.c, .int .i64 c.d] ∧ 0 ≤ c.k ∧ c.k ≤ 255 := by
  obtain ⟨y0, y1, n, -, hl, h0, h1⟩ := trod_struct2 Tryz.underlying48 h
  obtain ⟨k, e0, -, hw⟩ := DataW.trod_int Tryz.underlying5 h0
  obtain ⟨xs, p, rfl, -, -, hn, hel⟩ := DataW.trod_array Tryz.underlying46 h1
  rw [cC] at hl
  obtain ⟨c0, c1, c2, c3, c4, rfl⟩ := list5 hl
  simp [cU8, cV4] at e0 hel
  subst e0
  have each : ∀ i, i < 4 → ∃ z, (List.take (Tryz.prog.cellsOf 3) (List.drop (i * Tryz.prog.cellsOf 3) [c1, c2, c3, c4])) = [.int .i64 z] := by
    intro i hi
    obtain ⟨y, hy⟩ := some_get (l := xs) (i := i) (by omega)
    obtain ⟨z, hz, -⟩ := one_int ((hel i hi).trans hy)
    exact ⟨z, hz⟩
  obtain ⟨z0, e0⟩ := each 0 (by omega)
  obtain ⟨z1, e1⟩ := each 1 (by omega)
  obtain ⟨z2, e2⟩ := each 2 (by omega)
  obtain ⟨z3, e3⟩ := each 3 (by omega)
  simp [cI] at e0 e1 e2 e3
  subst e0 e1 e2 e3
  exact ⟨⟨k, z0, z1, z2, z3⟩, rfl, wf_u8o hw⟩
theorem comp_raw (b off m : Nat) (cs : List Value) (y : DataW H × List MemPlace) (h : ∀ j, j < 5 → W.cell? ⟨b, off + j, none⟩ = cs[j]?) (hl : cs.length = 5) (ht : TR enc W m 48 cs = some y) : CompRaw W b off := by
  obtain ⟨c, rfl, hk⟩ := comp_cells ht
  exact ⟨c, ⟨h 0 (by omega), h 1 (by omega), h 2 (by omega), h 3 (by omega), h 4 (by omega)⟩, hk⟩
theorem ent_raw (b off m : Nat) (cs : List Value) (y : DataW H × List MemPlace) (h : ∀ j, j < 2 → W.cell? ⟨b, off + j, none⟩ = cs[j]?) (hl : cs.length = 2) (ht : TR enc W m 43 cs = some y) : EntRaw W b off := by
  obtain ⟨y0, y1, n, -, -, h0, h1⟩ := trod_struct2 Tryz.underlying43 ht
  obtain ⟨c0, c1, rfl⟩ := list2 hl
  obtain ⟨id, e0, -⟩ := one_int h0
  obtain ⟨a, n, c, e1, hs, -⟩ := raw_slice Tryz.underlying41 cC (by omega) comp_raw h1
  simp [cI, cSl] at e0 e1
  subst e0 e1
  exact ⟨id, a, n, c, h 0 (by omega), h 1 (by omega), hs⟩
theorem inp_cells {m : Nat} {cs : List Value} {x : DataW H × List MemPlace} (h : TR enc W m 37 cs = some x) : ∃ i : Inp, cs = iv i ∧ (I64 i.c ∧ I64 i.s ∧ I64 i.t ∧ I64 i.seen ∧ I64 i.part) ∧ (I64 i.ax ∧ I64 i.ay) ∧ I64 i.mx ∧ I64 i.my := by
  obtain ⟨xs, n, -, -, hl, hn, hf⟩ := DataW.trod_struct Tryz.underlying37 h
  rw [cIn] at hl
  obtain ⟨c0, c1, c2, c3, c4, c5, c6, c7, c8, c9, rfl⟩ := list10 hl
  have hn8 : xs.length = 8 := hn
  have get : ∀ i, i < 8 → ∃ y, xs[i]? = some y := fun i hi => some_get (by omega)
  obtain ⟨y0, g0⟩ := get 0 (by omega)
  obtain ⟨y1, g1⟩ := get 1 (by omega)
  obtain ⟨y2, g2⟩ := get 2 (by omega)
  obtain ⟨y3, g3⟩ := get 3 (by omega)
  obtain ⟨y4, g4⟩ := get 4 (by omega)
  obtain ⟨y5, g5⟩ := get 5 (by omega)
  obtain ⟨y6, g6⟩ := get 6 (by omega)
  obtain ⟨y7, g7⟩ := get 7 (by omega)
  obtain ⟨z0, e0, w0⟩ := one_int ((hf 0 _ rfl).trans g0)
  obtain ⟨z1, e1, w1⟩ := one_int ((hf 1 _ rfl).trans g1)
  obtain ⟨z2, e2, w2⟩ := one_int ((hf 2 _ rfl).trans g2)
  obtain ⟨u0, u1, n3, -, -, h30, h31⟩ := trod_struct2 Tryz.underlying23 ((hf 3 _ rfl).trans g3)
  obtain ⟨z3, e3, w3⟩ := one_int h30
  obtain ⟨z4, e4, w4⟩ := one_int h31
  obtain ⟨bf, e5⟩ := trod_bool' Tryz.underlying4 ((hf 4 _ rfl).trans g4)
  obtain ⟨v0, v1, n5, -, -, h50, h51⟩ := trod_struct2 Tryz.underlying23 ((hf 5 _ rfl).trans g5)
  obtain ⟨z6, e6, w6⟩ := one_int h50
  obtain ⟨z7, e7, w7⟩ := one_int h51
  obtain ⟨z8, e8, w8⟩ := one_int ((hf 6 _ rfl).trans g6)
  obtain ⟨z9, e9, w9⟩ := one_int ((hf 7 _ rfl).trans g7)
  simp [cI, cVc, cBo] at e0 e1 e2 e3 e4 e5 e6 e7 e8 e9
  subst e0 e1 e2 e3 e4 e5 e6 e7 e8 e9
  exact ⟨⟨z0, z1, z2, z3, z4, bf, z6, z7, z8, z9⟩, rfl, ⟨w0, w1, w2, w8, w9⟩, ⟨w6, w7⟩, w3, w4⟩
theorem inp_raw (b off m : Nat) (cs : List Value) (y : DataW H × List MemPlace) (h : ∀ j, j < 10 → W.cell? ⟨b, off + j, none⟩ = cs[j]?) (hl : cs.length = 10) (ht : TR enc W m 37 cs = some y) : InpRaw W b off := by
  obtain ⟨i, rfl, -, -, h1, h2⟩ := inp_cells ht
  exact ⟨i, ⟨h 0 (by omega), h 1 (by omega), h 2 (by omega), h 3 (by omega), h 4 (by omega), h 5 (by omega), h 6 (by omega), h 7 (by omega), h 8 (by omega), h 9 (by omega)⟩, h1, h2⟩
/-- a client as an argument -/
theorem open_client {b0 : Nat} {v : Value} {d : DataW H} {p : List MemPlace} (hv : Value.okWide Tryz.prog W .any b0 29 v) (h : DataW.Trod enc Tryz.prog W 0 (fun _ => true) true 29 v d p) :
    ∃ id gx gy t ack a n cap pa pn pc, v = .agg #[.int .i64 id, .int .i64 gx, .int .i64 gy, .int .i64 t, .slice a n cap, .int .i64 ack, .slice pa pn pc] ∧ (I64 id ∧ I64 gx ∧ I64 gy ∧ I64 t ∧ I64 ack) ∧ EntsRaw W (.slice a n cap) ∧ InpsRaw W (.slice pa pn pc) ∧ n ≤ cap ∧ pn ≤ pc := by
  obtain ⟨cs, rfl, hsz⟩ := okWide_struct Tryz.underlying29 hv
  obtain ⟨l⟩ := cs
  obtain ⟨fuel, hf0⟩ := h
  have hsz' : l.length = 7 := hsz.trans cCl
  obtain ⟨c0, c1, c2, c3, c4, c5, c6, rfl⟩ := list7 hsz'
  have hf1 : TR enc W fuel 29 [c0, c1, c2, c3, c4, c5, c6] = some (d, p) := hf0
  obtain ⟨xs, m, -, -, -, hn, hf⟩ := DataW.trod_struct Tryz.underlying29 hf1
  have hn8 : xs.length = 5 := hn
  have get : ∀ i, i < 5 → ∃ y, xs[i]? = some y := fun i hi => some_get (by omega)
  obtain ⟨y0, g0⟩ := get 0 (by omega)
  obtain ⟨y1, g1⟩ := get 1 (by omega)
  obtain ⟨y2, g2⟩ := get 2 (by omega)
  obtain ⟨y3, g3⟩ := get 3 (by omega)
  obtain ⟨y4, g4⟩ := get 4 (by omega)
  obtain ⟨z0, e0, w0⟩ := one_int ((hf 0 _ rfl).trans g0)
  obtain ⟨u0, u1, n3, -, -, h10, h11⟩ := trod_struct2 Tryz.underlying23 ((hf 1 _ rfl).trans g1)
  obtain ⟨z1, e1, w1⟩ := one_int h10
  obtain ⟨z2, e2, w2⟩ := one_int h11
  obtain ⟨v0, v1, n4, -, -, h20, h21⟩ := trod_struct2 Tryz.underlying26 ((hf 2 _ rfl).trans g2)
  obtain ⟨z3, e3, w3⟩ := one_int h20
  obtain ⟨a, n, cap, e4, hE, hnc⟩ := raw_slice Tryz.underlying24 cE (by omega) ent_raw h21
  obtain ⟨z5, e5, w5⟩ := one_int ((hf 3 _ rfl).trans g3)
  obtain ⟨pa, pn, pc, e6, hI, hpc⟩ := raw_slice Tryz.underlying27 cIn (by omega) inp_raw ((hf 4 _ rfl).trans g4)
  simp [cI, cVc, cWo, cSE, cSI] at e0 e1 e2 e3 e4 e5 e6
  subst e0 e1 e2 e3 e4 e5 e6
  exact ⟨z0, z1, z2, z3, z5, a, n, cap, pa, pn, pc, rfl, ⟨w0, w1, w2, w3, w5⟩, hE, hI, hnc, hpc⟩
/-- an input as an argument -/
theorem open_input {b0 : Nat} {v : Value} {d : DataW H} {p : List MemPlace} (hv : Value.okWide Tryz.prog W .any b0 37 v) (h : DataW.Trod enc Tryz.prog W 0 (fun _ => true) true 37 v d p) :
    ∃ x : Inp, v = Iv x ∧ (I64 x.c ∧ I64 x.s ∧ I64 x.t ∧ I64 x.seen ∧ I64 x.part) ∧ (I64 x.ax ∧ I64 x.ay) ∧ I64 x.mx ∧ I64 x.my := by
  obtain ⟨cs, rfl, hsz⟩ := okWide_struct Tryz.underlying37 hv
  obtain ⟨l⟩ := cs
  obtain ⟨fuel, hf0⟩ := h
  have hsz' : l.length = 10 := hsz.trans cIn
  obtain ⟨x, hx, h1⟩ := inp_cells (show TR enc W fuel 37 l = some (d, p) from hf0)
  subst hx
  exact ⟨x, rfl, h1⟩
end
end Go.Proofs.YtlcjkomfjgddeaaGreatDoor
