/- client.Own. Rows of the call's own: many cells stored at once, the builtin clear, a shorter slice of the row. slices.Delete of one component of a row of the call's own. -/
import Derived.Test.YtlcjkomfjgddeaaGreatDoorM24
import Derived.Test.YtlcjkomfjgddeaaGreatDoorM11
import Derived.Test.YtlcjkomfjgddeaaGreatDoorM12
import Derived.Deep.AppendSrc
import Derived.Lib.JoinLaws
set_option linter.unusedVariables false
set_option linter.unusedSimpArgs false
namespace Go.Proofs.YtlcjkomfjgddeaaGreatDoor
open Go Go.RowKit Go.Sort
set_option maxRecDepth 100000
attribute [local go_sem] opLow opUpon opLow2 opUpon2

def IntAt (w : World) (b o : Nat) (x : Int) : Prop := w.cell? ⟨b, o, none⟩ = some (.int .i64 x)
def IntsAt : World → Value → List Int → Prop := ListAt IntAt 1
theorem IntsAt.below {w w' : World} {v : Value} {l : List Int} (h : IntsAt w v l) (hb : Below w.heap.size w w') : IntsAt w' v l := ListAt.below (fun b o x h => cell_later hb h) h
def ivz (l : List Int) : List Value := l.map (Value.int .i64)
def RowN (base : Nat) (w : World) (s : Value) (l : List Int) : Prop := w.ownsRow base 3 1 s l.length (ivz l) ∧ l.length < 1099511627776
theorem RowN.below {base : Nat} {w w' : World} {s : Value} {l : List Int} (h : RowN base w s l) (hb : Below w.heap.size w w') : RowN base w' s l := ⟨row_below h.1 hb, h.2⟩
theorem RowN.ints {base : Nat} {w : World} {s : Value} {l : List Int} (h : RowN base w s l) : IntsAt w s l := by
  have h0 := h.1
  rcases h.1.2 with ⟨h1, h2⟩ | ⟨g, cap, cur, hv, hg, hh, h3⟩
  · exact .inl ⟨⟨_, h1⟩, List.eq_nil_of_length_eq_zero h2⟩
  · subst hv
    refine .inr ⟨g, 0, cap, rfl, h.2, fun i x hx => ?_⟩
    have hi := (List.getElem?_eq_some_iff.1 hx).1
    unfold IntAt
    rw [Nat.zero_add, Nat.mul_one, h0.cellAt i (by omega)]
    unfold ivz
    rw [List.getElem?_map, hx]; rfl
theorem RowN.form {base : Nat} {w : World} {s : Value} {l : List Int} (h : RowN base w s l) : ∃ a c, s = .slice a l.length c := by
  rcases h.1.2 with ⟨h1, h2⟩ | ⟨g, cap, cur, hv, hg, hh, h3⟩
  · exact ⟨_, _, by rw [h1, h2]⟩
  · exact ⟨_, _, hv⟩
theorem infoN : (Tryz.prog.info? 3).map (fun i => (i.zero, i.size, i.bytes)) = some (some (.int .i64 0), 1, 8) := by kernel_rfl
/-- what client.Own returns -/
def ownM (W : Wld) (id : Int) : List Int := (W.es.filter (ownB id)).map Ent.id
def OwnPost (w : World) (W : Wld) (id : Int) (e : Ending) (w' : World) : Prop :=
  ∃ a n c, e = .returned (.tuple #[.slice a n c, .int .i64 0]) ∧ IntsAt w' (.slice a n c) (ownM W id) ∧ Below w.heap.size w w'
theorem own_bad (W : Wld) (a : Option Addr) (n c : Nat) (id : Int) (w : World) (hR : RG w) (h : EntsAt w (.slice a n c) W.es) (hno : ¬ (Valid W ∧ numB id = true)) :
    Calls Tryz.prog 21 #[Wv W.t a n c, .int .i64 id] w fun e w' => e = .returned (.tuple #[.slice none 0 0, .int .i64 2]) ∧ Below w.heap.size w w' := by
  have VV := fun V hV => valid_any W a n c V (hR.below hV) (h.below hV)
  by_cases hv : Valid W
  · have hn : numB id = false := by
      rcases h2 : numB id with _ | _
      · rfl
      · exact absurd ⟨hv, h2⟩ hno
    have NN := fun V => number_any id V
    rw [decide_eq_true hv] at VV
    rw [hn] at NN
    have HV := Lib.hid VV
    have HN := Lib.hid NN
    clear VV NN hn hv hno h hR
    go_enter Tryz.func21, Tryz.ntmps21
    go_wp2_with fail
    refine (HV.out _ ((Below.refl _ _).alloc (Nat.le_refl _) _)).mono ?_
    rintro e V ⟨rfl, hb1⟩
    have hb := ((Below.refl w.heap.size w).alloc (Nat.le_refl _) (.cells #[.int .i64 W.t, .slice a n c] 26)).trans (hb1.mono (by simp))
    clear hb1
    go_wp2_with fail
    refine (HN.out _).mono ?_
    rintro e V2 ⟨rfl, hb2⟩
    obtain ⟨hb, -⟩ := below_cc hb2 hb
    clear hb2
    go_wp2
    go_ret2
    exact ⟨rfl, hb⟩
  · rw [decide_eq_false hv] at VV
    have HV := Lib.hid VV
    clear VV hv hno h hR
    go_enter Tryz.func21, Tryz.ntmps21
    go_wp2_with fail
    refine (HV.out _ ((Below.refl _ _).alloc (Nat.le_refl _) _)).mono ?_
    rintro e V ⟨rfl, hb1⟩
    have hb := ((Below.refl w.heap.size w).alloc (Nat.le_refl _) (.cells #[.int .i64 W.t, .slice a n c] 26)).trans (hb1.mono (by simp))
    clear hb1
    go_wp2
    go_ret2
    exact ⟨rfl, hb⟩
set_option maxHeartbeats 4000000 in
theorem own_ok (W : Wld) (a : Option Addr) (n c : Nat) (id : Int) (w : World) (hR : RG w) (h : EntsAt w (.slice a n c) W.es) (hv : Valid W) (hn : numB id = true) :
    Calls Tryz.prog 21 #[Wv W.t a n c, .int .i64 id] w (OwnPost w W id) := by
  have hlen : n = W.es.length := ListAt.len h
  have hn64 : n ≤ 64 := by have := hv.2.1; omega
  have HL := Lib.hid hlen
  have VV := fun V hV => valid_any W a n c V (hR.below hV) (h.below hV)
  have NN := fun V => number_any id V
  rw [decide_eq_true hv] at VV
  rw [hn] at NN
  have HV := Lib.hid VV
  have HN := Lib.hid NN
  have HH := Lib.hid h
  obtain ⟨i0, hi, hz0, hz1, hz2⟩ := info_parts infoN
  have HIi := Lib.hid hi
  clear VV NN hn hv hlen h hR hi
  go_enter Tryz.func21, Tryz.ntmps21
  go_wp2_with fail
  refine (HV.out _ ((Below.refl _ _).alloc (Nat.le_refl _) _)).mono ?_
  rintro e V ⟨rfl, hb1⟩
  have B0 : Bk V w.heap.size #[.int .i64 W.t, .slice a n c] 26 := (Bk.made _ _ _).below hb1
  have hb := ((Below.refl w.heap.size w).alloc (Nat.le_refl _) (.cells #[.int .i64 W.t, .slice a n c] 26)).trans (hb1.mono (by simp))
  clear hb1
  go_wp2_with fail
  refine (HN.out _).mono ?_
  rintro e V2 ⟨rfl, hb2⟩
  replace B0 := B0.below hb2
  obtain ⟨hb, -⟩ := below_cc hb2 hb
  clear hb2
  go_wp2_with fail
  refine (cof_any id _).mono ?_
  rintro e V3 ⟨g, rfl, BG, hb3⟩
  replace B0 := B0.below hb3
  obtain ⟨hb, hs⟩ := below_cc hb3 hb
  clear hb3
  have p1 := B0.cell (v := .slice a n c) 1 rfl
  go_wp2
  go_loopw [7, 23] (fun v7 v23 wr => ∃ k : Nat, (k ≤ n ∧ v23 = .int .i64 k) ∧ RowN w.heap.size wr v7 (((W.es.take k).filter (ownB id)).map Ent.id) ∧ Bk wr g #[.int .u8 4, .int .i64 id, .int .i64 0, .int .i64 0, .int .i64 0] 48 ∧ Below w.heap.size w wr) (fun _ v23 _ => n - (intOf v23).toNat)
  case atStart => exact ⟨0, ⟨by omega, rfl⟩, ⟨World.ownsRow_nil _ _ _ _, by simp⟩, BG, hb⟩
  case round =>
    obtain ⟨k, ⟨hk, rfl⟩, hRow, BG, hb⟩ := hrel
    have hs := hb.size
    obtain ⟨a', c', rfl⟩ := hRow.form
    have hol : (((W.es.take k).filter (ownB id)).map Ent.id).length ≤ k := by
      rw [List.length_map]
      exact Nat.le_trans (List.length_filter_le _ _) (List.length_take_le _ _)
    obtain ⟨M, hM⟩ : ∃ M, ((W.es.take k).filter (ownB id)).map Ent.id = M := ⟨_, rfl⟩
    rw [hM] at hRow hol ⊢
    have HM := Lib.hid hM
    clear hM p1
    by_cases hlt : k < n
    · obtain ⟨x, hx⟩ := at_lt (l := W.es) (i := k) (by rw [← HL.out]; exact hlt)
      have htk : ((W.es.take (k + 1)).filter (ownB id)).map Ent.id = if ownB id x = true then M ++ [x.id] else M := by
        rw [take_succ hx, List.filter_append, List.map_append, HM.out]
        by_cases ho : ownB id x = true <;> simp [List.filter_cons, ho]
      have HTK := Lib.hid htk
      clear htk
      rcases HH.out with ⟨h, hnil⟩ | ⟨b, off, cap, h, hl, hc⟩
      · rw [hnil] at hx; cases hx
      · injection h with h1 h2 h3
        subst h1 h3
        obtain ⟨x0, xa, xn, xc, x1, xh⟩ := hc k x hx
        replace x0 := cell_later hb x0
        replace x1 := cell_later hb x1
        replace xh := xh.below hb
        have HX := Lib.hid xh
        clear hx h2 hc hl xh
        have R1 := Lib.hid (fun (V : World) (hV : Below wr.heap.size wr V) => own1_any x xa xn xc id g V (HX.out.below hV) (BG.below hV))
        go_wp2_with fail
        refine (R1.out _ ((Below.refl _ _).alloc (Nat.le_refl _) _)).mono ?_
        rintro e V4 ⟨rfl, hb4⟩
        have Be : Bk V4 wr.heap.size #[.int .i64 x.id, .slice xa xn xc] 43 := (Bk.made _ _ _).below hb4
        have hb5 : Below wr.heap.size wr V4 := ((Below.refl wr.heap.size wr).alloc (Nat.le_refl _) _).trans (hb4.mono (by simp))
        replace BG := BG.below hb5
        replace hRow := hRow.below hb5
        obtain ⟨hb, hs⟩ := below_cc hb5 hb
        obtain ⟨gw, hgw⟩ : ∃ gw, wr.heap.size = gw := ⟨_, rfl⟩
        rw [hgw] at Be ⊢
        clear hb4 hb5 x0 x1 R1 hgw
        by_cases ho : ownB id x = true
        · rw [ho] at HTK ⊢
          have e0 := Be.cell (v := .int .i64 x.id) 0 rfl
          have HRW := Lib.hid hRow
          have HB := Lib.hid hb
          have HS := Lib.hid hs
          clear hRow hb hs ho
          go_wp2_with (at_builtin; refine wpL_name (fun W5 => Bk W5 V4.heap.size #[.int .i64 x.id] 3 ∧ Below V4.heap.size V4 W5) ⟨Bk.made _ _ _, (Below.refl _ _).alloc (Nat.le_refl _) _⟩ ?_)
          rintro V5 ⟨B5, hb5⟩
          have hRow := HRW.out.below hb5
          obtain ⟨hb, hs⟩ := below_cc hb5 HB.out
          replace BG := BG.below hb5
          clear hb5 e0
          refine wpList_append_mine _ rfl _ _ 58 rfl w.heap.size 3 i0 (.int .i64 0) 1 8 Tryz.underlying58 HIi.out hz0 hz1 hz2 rfl (by decide) _ _ _ rfl hRow.1 ⟨V4.heap.size, 0, none⟩ 1 1 [.int .i64 x.id] rfl rfl ?c1 ?c2 (by decide) ?c4 ?c5 hs ?_
          case c1 =>
            intro j u hj
            match j, hj with
            | 0, hj => simp at hj; subst hj; exact B5.cell 0 rfl
          case c2 => intro u hu; simp at hu; subst hu; rfl
          case c4 => unfold maxLen; omega
          case c5 => omega
          intro gS capS wS hownS hgS hlS
          change V5.grownBy wS (Value.slice a' M.length c').ownBlock at hgS
          have hrow2 : RowN w.heap.size wS (.slice (some ⟨gS, 0, none⟩) (M.length + 1) capS) (M ++ [x.id]) :=
            ⟨by rw [List.length_append]; unfold ivz; rw [List.map_append]; exact hownS, by simp; omega⟩
          have BG2 : Bk wS g #[.int .u8 4, .int .i64 id, .int .i64 0, .int .i64 0, .int .i64 0] 48 := (hgS.block _ BG.lt (bk_ne_row BG (by decide) hRow.1)).trans BG
          have hb6 : Below w.heap.size w wS := hb.grown hgS hs (fun k e => (hRow.1.lt k e).1)
          have HR2 := Lib.hid hrow2
          clear hownS hgS hlS hRow hb hs BG B5 HRW HB HS hrow2
          go_wp2
          go_roundw
          case rel => exact ⟨k + 1, ⟨by omega, by go_num⟩, by rw [HTK.out, if_pos (by simp)]; exact HR2.out, BG2, hb6⟩
          case measure => simp [intOf]; omega
        · have ho : ownB id x = false := by simpa using ho
          rw [ho] at HTK ⊢
          clear ho
          go_wp2
          go_roundw
          case rel => exact ⟨k + 1, ⟨by omega, by go_num⟩, by rw [HTK.out, if_neg (by simp)]; exact hRow, BG, hb⟩
          case measure => simp [intOf]; omega
    · obtain rfl : k = n := by omega
      have hfull : M = ownM W id := by rw [← HM.out]; unfold ownM; rw [List.take_of_length_le (by rw [← HL.out]; omega)]
      have HF := Lib.hid hfull
      clear hfull
      go_wp2
      go_ret2
      exact ⟨a', M.length, c', rfl, by rw [← HF.out]; exact hRow.ints, hb⟩
end Go.Proofs.YtlcjkomfjgddeaaGreatDoor
namespace Go.Proofs.YtlcjkomfjgddeaaGreatDoor
open Go Go.RowKit Go.Sort
set_option maxRecDepth 100000

/-- cells stored from a place on -/
def spl {α : Type} (xs : List α) : Nat → List α → List α
  | _, [] => xs
  | o, v :: r => spl (xs.set o v) (o + 1) r
theorem spl_len {α : Type} : ∀ (vs xs : List α) (o : Nat), (spl xs o vs).length = xs.length
  | [], _, _ => rfl
  | v :: r, xs, o => by rw [spl, spl_len r, List.length_set]
theorem spl_get {α : Type} : ∀ (vs xs : List α) (o : Nat), o + vs.length ≤ xs.length → ∀ t, (spl xs o vs)[t]? = if o ≤ t ∧ t < o + vs.length then vs[t - o]? else xs[t]?
  | [], xs, o, _, t => by rw [spl, if_neg (by simp)]
  | v :: r, xs, o, h, t => by
    simp only [List.length_cons] at h ⊢
    rw [spl, spl_get r (xs.set o v) (o + 1) (by rw [List.length_set]; omega) t]
    by_cases h1 : t = o
    · subst h1
      rw [if_neg (by omega), if_pos (by omega), List.getElem?_set_self (by omega)]; simp
    · by_cases h2 : o + 1 ≤ t ∧ t < o + 1 + r.length
      · rw [if_pos h2, if_pos (by omega), show t - o = (t - (o + 1)) + 1 by omega, List.getElem?_cons_succ]
      · rw [if_neg h2, if_neg (by omega), List.getElem?_set_ne (Ne.symm h1)]
theorem row_cells {w : World} {base : Nat} {e : TypeId} {size g cap n : Nat} : ∀ (vs : List Value) (o : Nat) {w : World} {xs : List Value}, w.ownsRow base e size (.slice (some ⟨g, 0, none⟩) n cap) n xs →
    (w.setCells g o vs).ownsRow base e size (.slice (some ⟨g, 0, none⟩) n cap) n (spl xs o vs) ∧ w.grownBy (w.setCells g o vs) (some g)
  | [], _, _, _, h => ⟨h, rfl, rfl, rfl, Nat.le_refl _, fun _ _ _ => rfl⟩
  | v :: r, o, w, xs, h => by
    have h1 := h.stored o v
    have h2 := row_cells (w := w) r (o + 1) h1.1
    refine ⟨h2.1, h2.2.os.trans h1.2.os, h2.2.tape.trans h1.2.tape, h2.2.output.trans h1.2.output, Nat.le_trans h1.2.size h2.2.size, fun k hk hne => (h2.2.block k (Nat.lt_of_lt_of_le hk h1.2.size) hne).trans (h1.2.block k hk hne)⟩
theorem row_cut {w : World} {base : Nat} {e : TypeId} {size g cap n m : Nat} {xs : List Value} (h : w.ownsRow base e size (.slice (some ⟨g, 0, none⟩) n cap) n xs) (hm : m ≤ n) :
    w.ownsRow base e size (.slice (some ⟨g, 0, none⟩) m cap) m (xs.take (m * size)) := by
  have hmn : m * size ≤ n * size := Nat.mul_le_mul_right _ hm
  refine ⟨by rw [List.length_take, h.1]; omega, ?_⟩
  rcases h.2 with ⟨h', _⟩ | ⟨g', cap', cur, h', hb, hg, hnc, hcm, hcs, htake⟩
  · simp at h'
  · simp only [Value.slice.injEq, Option.some.injEq, Addr.mk.injEq, and_true, true_and] at h'
    obtain ⟨rfl, rfl⟩ := h'
    exact .inr ⟨g, cap, cur, rfl, hb, hg, by omega, hcm, hcs, by rw [← htake, List.take_take]; congr 1; omega⟩
theorem zeroCells_len (zc : Array Value) (n : Nat) : (Builtin.zeroCells zc n).toList.length = n * zc.size := by
  unfold Builtin.zeroCells
  simp [Nat.mul_comm]
theorem zeroCells_one (zc : Array Value) (n : Nat) (h : ∀ u ∈ zc.toList, u.oneCell' = true) : ∀ u ∈ (Builtin.zeroCells zc n).toList, u.oneCell' = true := by
  intro u hu
  unfold Builtin.zeroCells at hu
  simp at hu
  obtain ⟨i, hi, rfl⟩ := hu
  have hz : 0 < zc.size := by
    rcases Nat.eq_zero_or_pos zc.size with h0 | h0
    · simp [h0] at hi
    · exact h0
  have hm : i % zc.size < zc.size := Nat.mod_lt _ hz
  first | (apply h; simp [hm]; done) | (rw [getElem!_pos zc _ hm]; apply h; simp)
section
variable {P : Program}
theorem run_clear_rows (w : World) (t e ty : TypeId) (z : Value) (size : Nat) (ht : P.underlying t = some (.slice e)) (hv : ∀ w, (zeroValue e).run P w = .ok z w) (hz : z.cells.size = size) (h1 : ∀ u ∈ z.cells.toList, u.oneCell' = true) (b o n c : Nat) (hn : 0 < n)
    (hc : ∀ j, j < n * size → (w.cell? ⟨b, o + j, none⟩).isSome = true) (hf : ∀ j, j < n * size → w.frozen? ⟨b, o + j, none⟩ = false) :
    (Builtin.clear_ #[t] ty #[.slice (some ⟨b, o, none⟩) n c]).run P w = .ok (.tuple #[]) (w.setCells b o (Builtin.zeroCells z.cells n).toList) := by
  have hl := zeroCells_len z.cells n
  rw [hz] at hl
  have hst := run_storeCells_cells (P := P) b o (Builtin.zeroCells z.cells n).toList 0 w (by rw [hl]; simpa using hc) (by rw [hl]; simpa using hf) (zeroCells_one _ _ h1)
  simp only [Nat.add_zero] at hst
  obtain ⟨m, rfl⟩ : ∃ m, n = m + 1 := ⟨n - 1, by omega⟩
  simp [Builtin.clear_, run_underlying ht, hv, hst]
theorem wpList_clear (w : World) {ops : Array Oper} {rest : List Oper} {o : Oper} {a : Act} {Q : Exit → Act → World → Prop}
    (hg : o.guard = none) (s : Operand) (t e : TypeId) (hop : o.op = Op.call { callee := Callee.builtin Builtin.clear, args := #[s], argTypes := #[t] }) (z : Value) (size : Nat) (ht : P.underlying t = some (.slice e)) (hv : ∀ w, (zeroValue e).run P w = .ok z w) (hz : z.cells.size = size) (h1 : ∀ u ∈ z.cells.toList, u.oneCell' = true) (b off n c : Nat) (hs : a.eval s = .slice (some ⟨b, off, none⟩) n c) (hn : 0 < n)
    (hc : ∀ j, j < n * size → (w.cell? ⟨b, off + j, none⟩).isSome = true) (hf : ∀ j, j < n * size → w.frozen? ⟨b, off + j, none⟩ = false)
    (hK : wpList P ops Q rest (a.put o.dst (.tuple #[])) (w.setCells b off (Builtin.zeroCells z.cells n).toList)) :
    wpList P ops Q (o :: rest) a w := by
  refine wpList_plain hg fun K hK' => ?_
  have hrun := run_clear_rows (P := P) w t e o.type z size ht hv hz h1 b off n c hn hc hf
  unfold Oper.wp
  simp [execOp, hop, resolve, invoke, builtin, hs, hrun, Result.andThen]
  exact hK' _ _ hK
end
end Go.Proofs.YtlcjkomfjgddeaaGreatDoor
namespace Go.Proofs.YtlcjkomfjgddeaaGreatDoor
open Go Go.RowKit Go.Sort
set_option maxRecDepth 100000
attribute [local go_sem] opLow opUpon opLow2 opUpon2

theorem zeroC (w : World) : (zeroValue 48).run Tryz.prog w = .ok (.agg #[.int .u8 0, .int .i64 0, .int .i64 0, .int .i64 0, .int .i64 0]) w := by kernel_rfl
theorem erase_cells {l : List Cmp} {k q : Nat} (hl : l.length = k + q + 1) (zs : List Value) (hz : zs.length = 5) :
    (spl (spl (cvs l) (k * 5) ((cvs l).drop ((k + 1) * 5))) ((k + q) * 5) zs).take ((k + q) * 5) = cvs (l.eraseIdx k) := by
  have hcl : (cvs l).length = (k + q + 1) * 5 := by rw [cvs_len, hl]
  have hdl : ((cvs l).drop ((k + 1) * 5)).length = q * 5 := by rw [List.length_drop, hcl]; omega
  have hel : (l.eraseIdx k).length = k + q := by rw [List.length_eraseIdx, hl, if_pos (by omega)]; omega
  apply List.ext_getElem?
  intro t
  rw [List.getElem?_take]
  by_cases ht : t < (k + q) * 5
  · rw [if_pos ht, spl_get _ _ _ (by rw [spl_len, hcl, hz]; omega), if_neg (by omega), spl_get _ _ _ (by rw [hdl, hcl]; omega), hdl]
    have hti : t = (t / 5) * 5 + t % 5 := by omega
    obtain ⟨i, r, rfl, hr⟩ : ∃ i r, t = i * 5 + r ∧ r < 5 := ⟨t / 5, t % 5, hti, by omega⟩
    obtain ⟨x, hx⟩ := at_lt (l := l.eraseIdx k) (i := i) (by rw [hel]; omega)
    have h1 : (cvs (l.eraseIdx k))[i * 5 + r]? = (cv x)[r]? := flat_at cv 5 cv_len _ i r x hx hr
    rw [h1]
    rw [List.getElem?_eraseIdx] at hx
    by_cases hi : i < k
    · rw [if_pos hi] at hx
      rw [if_neg (by omega)]
      exact flat_at cv 5 cv_len l i r x hx hr
    · rw [if_neg hi] at hx
      rw [if_pos (by omega), List.getElem?_drop, show (k + 1) * 5 + (i * 5 + r - k * 5) = (i + 1) * 5 + r by omega]
      exact flat_at cv 5 cv_len l (i + 1) r x hx hr
  · rw [if_neg ht, List.getElem?_eq_none (by rw [cvs_len, hel]; omega)]
set_option maxHeartbeats 4000000 in
theorem delete_any (base : Nat) (l : List Cmp) (g cap k q : Nat) (w : World) (h : RowC base w (.slice (some ⟨g, 0, none⟩) (k + q + 1) cap) l) (hl : l.length = k + q + 1) :
    Calls Tryz.prog 41 #[.slice (some ⟨g, 0, none⟩) (k + q + 1) cap, .int .i64 k, .int .i64 (k + 1)] w fun e w' => e = .returned (.slice (some ⟨g, 0, none⟩) (k + q) cap) ∧ RowC base w' (.slice (some ⟨g, 0, none⟩) (k + q) cap) (l.eraseIdx k) ∧ w.grownBy w' (some g) := by
  have hrow : w.ownsRow base 48 5 (.slice (some ⟨g, 0, none⟩) (k + q + 1) cap) (k + q + 1) (cvs l) := by rw [← hl]; exact (hl.symm ▸ h.1)
  have hcap : k + q + 1 ≤ cap ∧ k + q + 1 < 1099511627776 ∧ cap ≤ 9223372036854775807 := by
    refine ⟨?_, by have := h.2.2; omega, ?_⟩ <;>
    · rcases h.1.2 with ⟨h1, _⟩ | ⟨g', c', cur, h1, _, _, h2, h3, _⟩
      · cases h1
      · injection h1 with u1 u2 u3; unfold maxLen at h3; omega
  obtain ⟨hc1, hc2, hc3⟩ := hcap
  have hcl : (cvs l).length = (k + q + 1) * 5 := by rw [cvs_len, hl]
  have HROW := Lib.hid hrow
  have HK := Lib.hid (And.intro h hl)
  have HCL := Lib.hid hcl
  obtain ⟨i0, hi0, hz0, hz1, hz2⟩ := info_parts infoC
  have HI := Lib.hid (And.intro hi0 hz1)
  have hk1 : k ≤ cap := by omega
  have hk2 : k + 1 ≤ k + q + 1 := by omega
  have hk3 : k ≤ k + q := by omega
  have hk4 : (0 : Int) ≤ (k : Int) + 1 := by omega
  have hk5 : (k : Int) ≤ (k : Int) + (q : Int) := by omega
  have hsrc : ∃ ad : Addr, (if cap = k + 1 then (some ⟨g, 0, none⟩ : Option Addr) else some ⟨g, (k + 1) * 5, none⟩) = some ad ∧ ∀ j u, ((cvs l).drop ((k + 1) * 5))[j]? = some u → w.cell? (ad.add j) = some u := by
    by_cases hc : cap = k + 1
    · refine ⟨⟨g, 0, none⟩, if_pos hc, fun j u hu => ?_⟩
      rw [List.getElem?_eq_none (by rw [List.length_drop, HCL.out]; omega)] at hu
      cases hu
    · refine ⟨⟨g, (k + 1) * 5, none⟩, if_neg hc, fun j u hu => ?_⟩
      rw [List.getElem?_drop] at hu
      have hj := (List.getElem?_eq_some_iff.1 hu).1
      rw [Addr.add_lit, HROW.out.cellAt _ (by rw [HCL.out] at hj; omega)]
      exact hu
  obtain ⟨ad, had, hsrc⟩ := hsrc
  have HSRC := Lib.hid hsrc
  clear hsrc
  have ne1 : ((k : Int) == (k : Int) + 1) = false := by simp; omega
  have wk : IntKind.i64.wrap ((k : Int) + 1) = (k : Int) + 1 := by rw [IntKind.wrap_i64]; omega
  clear hcl hrow h hl hi0 hz0 hz1 hz2
  go_enter Tryz.func41, Tryz.ntmps41
  go_wp2
  refine wp_region_low2 noPosts 6 (by kernel_rfl) (by kernel_rfl) ?_
  simp only [List.take, List.drop]
  iterate 6 (refine low2_step (fun K hK => ?_); go_simp; first | (refine hK _ ?_; clear hK K) | (apply Exists.intro; refine ⟨fun p => ?_, hK _ ?_⟩; clear hK K))
  refine low2_nil ?_
  intro W1 hC
  have hb1 := hC.1
  clear hC
  have hrow1 := row_below HROW.out hb1
  have hdl : ((cvs l).drop ((k + 1) * 5)).length = q * 5 := by rw [List.length_drop, HCL.out]; omega
  refine Go.wpList_append_room_src _ rfl _ _ 41 41 rfl 48 i0 Tryz.underlying41 HI.out.1 g 0 k cap rfl _ rfl q ((cvs l).drop ((k + 1) * 5)) ?s1 (by omega) ?s3 ?s4 ?_
  case s1 =>
    rw [HI.out.2]
    exact Src.ofSlice _ Tryz.underlying41 ad q _ _ hdl (fun j u hu => cell_later hb1 (HSRC.out j u hu)) (fun u hu => cvs_one l u (List.mem_of_mem_drop hu))
  case s3 =>
    intro j hj
    rw [HI.out.2, Nat.zero_add, hrow1.cellAt _ (by omega), List.getElem?_eq_getElem (by rw [HCL.out]; omega)]
    rfl
  case s4 => intro j hj; exact hrow1.frozenAt _
  have hrc := row_cells (w := W1) ((cvs l).drop ((k + 1) * 5)) (k * 5) hrow1
  refine wpL_name (fun W => W.ownsRow base 48 5 (.slice (some ⟨g, 0, none⟩) (k + q + 1) cap) (k + q + 1) (spl (cvs l) (k * 5) ((cvs l).drop ((k + 1) * 5))) ∧ w.grownBy W (some g)) ?n1 ?_
  case n1 =>
    rw [HI.out.2, Nat.zero_add]
    exact ⟨hrc.1, hrc.2.os.trans hb1.os, hrc.2.tape.trans hb1.tape, hrc.2.output.trans hb1.output, Nat.le_trans hb1.size hrc.2.size, fun i hi hne => (hrc.2.block i (Nat.lt_of_lt_of_le hi hb1.size) hne).trans (hb1.block i hi)⟩
  clear hrc hrow1 hdl hb1 had HSRC
  rintro W2 ⟨hrow2, hg2⟩
  have HR2 := Lib.hid (And.intro hrow2 hg2)
  have hne : ¬ cap = k + q := by omega
  have hk6 : k + q ≤ k + q + 1 := by omega
  have hk7 : k + q + 1 ≤ cap := by omega
  have hk8 : (k : Int) + (q : Int) ≤ (k : Int) + (q : Int) + 1 := by omega
  have hk9 : (0 : Int) ≤ (k : Int) + (q : Int) := by omega
  have hsl : (spl (cvs l) (k * 5) ((cvs l).drop ((k + 1) * 5))).length = (k + q + 1) * 5 := by rw [spl_len]; exact HCL.out
  have hclr : ∃ W3, (∀ ty c, (Builtin.clear_ #[41] ty #[.slice (some ⟨g, (k + q) * 5, none⟩) 1 c]).run Tryz.prog W2 = .ok (.tuple #[]) W3) ∧ (RowC base W3 (.slice (some ⟨g, 0, none⟩) (k + q) cap) (l.eraseIdx k) ∧ w.grownBy W3 (some g)) := by
    refine ⟨_, fun ty c => run_clear_rows W2 41 48 ty _ 5 Tryz.underlying41 zeroC rfl (by intro u hu; simp [Value.cells] at hu; rcases hu with rfl | rfl <;> rfl) g ((k + q) * 5) 1 c (by decide) (fun j hj => ?_) (fun j hj => hrow2.frozenAt _), ?_, ?_⟩
    · rw [hrow2.cellAt _ (by omega), List.getElem?_eq_getElem (by rw [hsl]; omega)]
      rfl
    · have hrc := (row_cells (w := W2) (Builtin.zeroCells (Value.agg #[.int .u8 0, .int .i64 0, .int .i64 0, .int .i64 0, .int .i64 0]).cells 1).toList ((k + q) * 5) hrow2).1
      have hct := row_cut hrc (show k + q ≤ k + q + 1 by omega)
      rw [erase_cells HK.out.2 _ (by rw [zeroCells_len]; rfl)] at hct
      have hel : (l.eraseIdx k).length = k + q := by rw [List.length_eraseIdx, HK.out.2, if_pos (by omega)]; omega
      exact ⟨by rw [hel]; exact hct, fun x hx => HK.out.1.2.1 x (List.mem_of_mem_eraseIdx hx), by omega⟩
    · have hrc := (row_cells (w := W2) (Builtin.zeroCells (Value.agg #[.int .u8 0, .int .i64 0, .int .i64 0, .int .i64 0, .int .i64 0]).cells 1).toList ((k + q) * 5) hrow2).2
      exact ⟨hrc.os.trans hg2.os, hrc.tape.trans hg2.tape, hrc.output.trans hg2.output, Nat.le_trans hg2.size hrc.size, fun i hi hne => (hrc.block i (Nat.lt_of_lt_of_le hi hg2.size) hne).trans (hg2.block i hi hne)⟩
  obtain ⟨W3, hclr, hpost⟩ := hclr
  have HP := Lib.hid hpost
  clear hrow2 hg2 hsl hpost HR2
  go_wp2
  go_returns
  exact ⟨rfl, HP.out.1, HP.out.2⟩
end Go.Proofs.YtlcjkomfjgddeaaGreatDoor
