/- Contracts of bits.Reader, and of quant's Get. -/
import Derived.Test.YtghfggfgndgkjaaGreatDoorBits2
set_option linter.unusedVariables false
set_option linter.unusedSimpArgs false
namespace Go.Proofs.YtghfggfgndgkjaaGreatDoor
open Go Go.RowKit Go.Sort
set_option maxRecDepth 1000000
attribute [local go_sem] opLow opUpon

/-- a Reader of these bits, at a place -/
def RdAt (base : Nat) (w : World) (r gb cap : Nat) (L : List Int) (m : Nat) : Prop :=
  Bk w r #[.bool true, .slice (some ⟨gb, 0, none⟩) ((L.length + 7) / 8) cap, .int .i64 m, .int .i64 0] 122 ∧ w.ownsRow base 5 1 (.slice (some ⟨gb, 0, none⟩) ((L.length + 7) / 8) cap) ((L.length + 7) / 8) (packV L) ∧ IsBits L
theorem RdAt.below {base r gb cap m : Nat} {L : List Int} {w w' : World} (h : RdAt base w r gb cap L m) (hb : Below w.heap.size w w') : RdAt base w' r gb cap L m := ⟨h.1.below hb, row_below h.2.1 hb, h.2.2⟩
/-- what a call that reads leaves -/
def Read (base : Nat) (w : World) (r gb cap : Nat) (L : List Int) (m : Nat) (w' : World) : Prop := RdAt base w' r gb cap L m ∧ Mut (fun b => b = r) w w'
theorem Read.back {base r gb cap m : Nat} {L : List Int} {w0 w w' : World} (hb : Below w0.heap.size w0 w) (h : Read base w r gb cap L m w') : Read base w0 r gb cap L m w' :=
  ⟨h.1, (Mut.of_below (U := fun b => b = r) hb).trans h.2 (fun _ _ h => h)⟩
theorem Read.fore {base r gb cap m : Nat} {L : List Int} {w w1 w2 : World} (h : Read base w r gb cap L m w1) (hb : Below w1.heap.size w1 w2) : Read base w r gb cap L m w2 :=
  ⟨h.1.below hb, h.2.trans (Mut.of_below (U := fun b => b = r) hb) (fun _ _ h => h)⟩
theorem Read.trans {base r gb cap m m2 : Nat} {L : List Int} {w w1 w2 : World} (h : Read base w r gb cap L m w1) (h2 : Read base w1 r gb cap L m2 w2) : Read base w r gb cap L m2 w2 :=
  ⟨h2.1, h.2.trans h2.2 (fun _ _ h => h)⟩
set_option maxHeartbeats 1000000 in
theorem rest_any (base r gb cap : Nat) (L : List Int) (m : Nat) (w : World) (h : RdAt base w r gb cap L m) (hm : m ≤ 1048576) (hl : L.length ≤ 1048576) :
    Calls Tryz.prog 99 #[.pointer (some ⟨r, 0, none⟩)] w fun e w' => e = .returned (.int .i64 (8 * ((L.length + 7) / 8 : Nat) - m)) ∧ Below w.heap.size w w' := by
  obtain ⟨q, hq⟩ : ∃ q, (L.length + 7) / 8 = q := ⟨_, rfl⟩
  have hq1 : q ≤ 131073 := by omega
  have h1 := h.1
  rw [hq] at h1 ⊢
  have c1 := h1.cell (v := .slice (some ⟨gb, 0, none⟩) q cap) 1 rfl
  have c2 := h1.cell (v := .int .i64 m) 2 rfl
  have e1 : IntKind.i64.wrap (8 * (q : Int)) = 8 * (q : Int) := by rw [IntKind.wrap_i64]; omega
  have e2 : IntKind.i64.wrap (8 * (q : Int) - m) = 8 * (q : Int) - m := by rw [IntKind.wrap_i64]; omega
  clear hq
  go_enter Tryz.func99, Tryz.ntmps99
  go_wp2
  go_region
  go_wp2
  go_returns
  exact ⟨rfl, by go_grown⟩
theorem rd_bit (L : List Int) (a : Int) (m : Nat) (hb : IsBits L) (h0 : 0 ≤ a) (h1 : a < 9223372036854775808) :
    bits .or .u64 (a * 2) (IntKind.u64.wrap (bits .and .u8 (byteOf L (m / 8) / 2 ^ (7 - m % 8)) 1)) = 2 * a + bt L m := by
  have hx := byteOf_bd hb (m / 8)
  have hbt := bt_byte hb m
  have hbd := hb.bd m
  have hp : (0 : Int) < 2 ^ (7 - m % 8) := Int.pow_pos (by decide)
  have q0 : 0 ≤ byteOf L (m / 8) / 2 ^ (7 - m % 8) := Int.ediv_nonneg hx.1 (by omega)
  have q1 : byteOf L (m / 8) / 2 ^ (7 - m % 8) ≤ byteOf L (m / 8) := Int.ediv_le_self _ hx.1
  generalize byteOf L (m / 8) / 2 ^ (7 - m % 8) = q at *
  rw [u8_and _ _ q0 (by omega) (by decide) (by decide), show (1 : Int).toNat = 1 from rfl, nat_mask1]
  have e : ((q.toNat % 2 : Nat) : Int) = bt L m := by omega
  rw [e, IntKind.wrap_u64, Int.emod_eq_of_lt (by omega) (by omega), u64_or _ _ (by omega) (by omega) hbd.1 (by omega), nat_join 1]
  · omega
  · omega
  · omega

set_option maxHeartbeats 4000000 in
theorem get_any (base r gb cap : Nat) (L : List Int) (m k : Nat) (w : World) (h : RdAt base w r gb cap L m) (hk : k ≤ 63) (hm : m + k ≤ L.length) (hl : L.length ≤ 1048576) :
    Calls Tryz.prog 100 #[.pointer (some ⟨r, 0, none⟩), .int .i64 k] w fun e w' => e = .returned (.int .u64 (numAt L m k)) ∧ Read base w r gb cap L (m + k) w' := by
  obtain ⟨hB0, hown0, hbits⟩ := h
  go_enter Tryz.func100, Tryz.ntmps100
  go_wp2
  go_loopw [5, 7] (fun v5 v7 wr => ∃ i : Nat, i ≤ k ∧ v7 = .int .i64 i ∧ v5 = .int .u64 (numAt L m i) ∧ Read base w r gb cap L (m + i) wr) (fun _ v7 _ => k - (intOf v7).toNat)
  case atStart => exact ⟨0, by omega, rfl, rfl, ⟨hB0, hown0, hbits⟩, Mut.refl _ _⟩
  case round =>
    obtain ⟨i, hik, rfl, rfl, ⟨hB, hown, -⟩, hM⟩ := hrel
    by_cases hlt : i < k
    · obtain ⟨p, hp⟩ : ∃ p, m + i = p := ⟨_, rfl⟩
      obtain ⟨q, hq⟩ : ∃ q, (L.length + 7) / 8 = q := ⟨_, rfl⟩
      obtain ⟨a, ha⟩ : ∃ a, numAt L m i = a := ⟨_, rfl⟩
      have hnb := numAt_bd hbits m i
      have h63 : (2 : Int) ^ i ≤ 2 ^ 62 := by exact_mod_cast Nat.pow_le_pow_right (n := 2) (by decide) (by omega)
      rw [ha] at hnb
      have hb := rd_bit L a p hbits hnb.1 (by have : (2 : Int) ^ 62 = 4611686018427387904 := rfl; omega)
      have hstep : numAt L m (i + 1) = 2 * a + bt L p := by rw [numAt, ha, hp]
      have a0 := hnb.1
      have a1 : a < 4611686018427387904 := by have : (2 : Int) ^ 62 = 4611686018427387904 := rfl; omega
      clear hnb h63
      have r0 : wr.cell? ⟨gb, p / 8, none⟩ = some (.int .u8 (byteOf L (p / 8))) := by rw [hown.cellAt _ (by omega), packV_at _ _ (by omega)]
      have hpq : p / 8 < q := by omega
      have hp2 : p < 1048576 := by omega
      have HP := Lib.hid hp
      have HN := Lib.hid (show r ≠ gb from fun e => bk_ne_row hB (by decide) hown (by rw [e]; rfl))
      have HS := Lib.hid hstep
      have HB := Lib.hid hb
      have HQ := Lib.hid hq
      have HO := Lib.hid hown
      rw [hp, hq] at hB
      rw [ha]
      clear hstep hb ha hp hown hq
      have c1 := hB.cell (v := .slice (some ⟨gb, 0, none⟩) q cap) 1 rfl
      have c2 := hB.cell (v := .int .i64 p) 2 rfl
      go_wp2
      go_region
      rw [HB.out, ← HS.out]
      have f2 := hB.free 2
      go_wp2
      go_roundw
      case rel => exact ⟨i + 1, by omega, by go_num, rfl, ⟨by rw [HQ.out, ← HP.out]; exact hB.put 2 _, ownsRow_setCell_other HO.out (a := ⟨r, 2, none⟩) (fun e => HN.out (Option.some.inj e).symm) _, hbits⟩, (hM.drew).setCell (.inl rfl) _⟩
      case measure => simp [intOf]; omega
    · have hk2 : i = k := by omega
      subst hk2
      go_wp2
      go_returns
      exact ⟨rfl, ⟨hB, hown, hbits⟩, hM⟩
set_option maxHeartbeats 1000000 in
theorem number_any (base r gb cap : Nat) (L : List Int) (m k : Nat) (w : World) (h : RdAt base w r gb cap L m) (hk : k ≤ 63) (hm : m + k ≤ L.length) (hl : L.length ≤ 1048576) :
    Calls Tryz.prog 73 #[.pointer (some ⟨r, 0, none⟩), .int .i64 k] w fun e w' => e = .returned (.tuple #[.int .u64 (numAt L m k), .int .i64 0]) ∧ Read base w r gb cap L (m + k) w' := by
  obtain ⟨z, hz⟩ : ∃ z : Int, 8 * (((L.length + 7) / 8 : Nat) : Int) - (m : Int) = z := ⟨_, rfl⟩
  have hz1 : ¬ (z < (k : Int)) := by omega
  have HL := Lib.hid (show m + k ≤ L.length ∧ L.length ≤ 1048576 ∧ m ≤ 1048576 from ⟨hm, hl, by omega⟩)
  have HZ := Lib.hid hz
  clear hz hm hl
  go_enter Tryz.func73, Tryz.ntmps73
  go_wp2_with fail
  with_reducible refine (rest_any base r gb cap L m _ h HL.out.2.2 HL.out.2.1).mono ?_
  rw [HZ.out]
  rintro e w1 ⟨rfl, hb⟩
  have h1 := h.below hb
  go_wp2_with fail
  with_reducible refine (get_any base r gb cap L m k _ h1 hk HL.out.1 HL.out.2.1).mono ?_
  rintro e w2 ⟨rfl, hr⟩
  have hr := Read.back hb hr
  go_wp2
  go_returns
  exact ⟨rfl, hr⟩
set_option maxHeartbeats 1000000 in
theorem read_any (base r gb cap : Nat) (L : List Int) (m k : Nat) (w : World) (h : RdAt base w r gb cap L m) (hk : k ≤ 63) (hm : m + k ≤ L.length) (hl : L.length ≤ 1048576) :
    Calls Tryz.prog 72 #[.pointer (some ⟨r, 0, none⟩), .int .i64 k, .int .i64 64, .func (.func 73) #[.pointer (some ⟨r, 0, none⟩)] #[]] w
      fun e w' => e = .returned (.tuple #[.int .u64 (numAt L m k), .int .i64 0]) ∧ Read base w r gb cap L (m + k) w' := by
  have c0 := h.1.cell (v := .bool true) 0 rfl
  have c3 := h.1.cell (v := .int .i64 0) 3 rfl
  have HL := Lib.hid (show m + k ≤ L.length ∧ L.length ≤ 1048576 ∧ k ≤ 63 from ⟨hm, hl, hk⟩)
  clear hm hl
  go_enter Tryz.func72, Tryz.ntmps72
  go_wp2_with fail
  with_reducible refine (number_any base r gb cap L m k _ h HL.out.2.2 HL.out.1 HL.out.2.1).mono ?_
  rintro e w1 ⟨rfl, hr⟩
  go_wp2
  go_returns
  exact ⟨rfl, hr⟩
set_option maxHeartbeats 1000000 in
theorem rget_any (base r gb cap : Nat) (L : List Int) (m k : Nat) (w : World) (h : RdAt base w r gb cap L m) (hk : k ≤ 63) (hm : m + k ≤ L.length) (hl : L.length ≤ 1048576) :
    Calls Tryz.prog 36 #[.pointer (some ⟨r, 0, none⟩), .int .i64 k] w fun e w' => e = .returned (.tuple #[.int .u64 (numAt L m k), .int .i64 0]) ∧ Read base w r gb cap L (m + k) w' := by
  have HL := Lib.hid (show m + k ≤ L.length ∧ L.length ≤ 1048576 ∧ k ≤ 63 from ⟨hm, hl, hk⟩)
  clear hm hl hk
  go_enter Tryz.func36, Tryz.ntmps36
  go_wp2_with fail
  with_reducible refine (read_any base r gb cap L m k _ h HL.out.2.2 HL.out.1 HL.out.2.1).mono ?_
  rintro e w1 ⟨rfl, hr⟩
  go_wp2
  go_returns
  exact ⟨rfl, hr⟩
set_option maxHeartbeats 1000000 in
theorem gget_any (base r gb cap : Nat) (L : List Int) (m : Nat) (lo hi b i : Int) (w : World) (h : RdAt base w r gb cap L m) (hg : GV lo hi b) (hm : m + b.toNat ≤ L.length) (hl : L.length ≤ 1048576) (hi' : numAt L m b.toNat = i) (hi2 : i ≤ gn b) :
    Calls Tryz.prog 37 #[G lo hi b, .pointer (some ⟨r, 0, none⟩)] w fun e w' => e = .returned (.tuple #[.int .i64 (qp lo hi b i), .int .i64 0]) ∧ Read base w r gb cap L (m + b.toNat) w' := by
  have HG := Lib.hid hg
  have HB : 1 ≤ b ∧ b ≤ 32 := hg.2.2.2
  have i0 : 0 ≤ i := by rw [← hi']; exact (numAt_bd h.2.2 m _).1
  have i1 : i ≤ 4294967295 := Int.le_trans hi2 (gn_bd _ HB.1 HB.2).2.1
  have HI := Lib.hid (show numAt L m b.toNat = i ∧ i ≤ gn b from ⟨hi', hi2⟩)
  obtain ⟨k, rfl⟩ := nat_of (show 0 ≤ b by omega)
  have HL := Lib.hid (show m + k ≤ L.length ∧ L.length ≤ 1048576 ∧ k ≤ 63 from ⟨hm, hl, by omega⟩)
  clear hm hl hg hi' hi2 HB
  go_enter Tryz.func37, Tryz.ntmps37
  go_wp2_with fail
  with_reducible refine (valid_yes _ _ _ HG.out _).mono ?_
  rintro e w1 ⟨rfl, hb⟩
  have hb0 := (Below.refl w.heap.size w).alloc (Nat.le_refl _) (.cells #[.int .i64 lo, .int .i64 hi, .int .i64 k] 23)
  have B1 := Bk.below (g := w.heap.size) (cs := #[.int .i64 lo, .int .i64 hi, .int .i64 k]) (t := 23) (Bk.made _ _ _) hb
  have c2 := B1.cell (v := .int .i64 k) 2 rfl
  have h1 := (h.below hb0).below hb
  obtain ⟨hg1, hs1⟩ := below_c (w := w) hb hb0
  go_wp2_with fail
  with_reducible refine (rget_any base r gb cap L m k _ h1 HL.out.2.2 HL.out.1 HL.out.2.1).mono ?_
  rintro e w2 ⟨rfl, hr⟩
  have B2 : Bk w2 w.heap.size #[.int .i64 lo, .int .i64 hi, .int .i64 k] 23 := B1.mut hr.2 (fun hu => absurd h.1.lt (by omega))
  have d0 := B2.cell (v := .int .i64 lo) 0 rfl
  have d1 := B2.cell (v := .int .i64 hi) 1 rfl
  have d2 := B2.cell (v := .int .i64 k) 2 rfl
  have hr := Read.back hg1 hr
  have e1 : numAt L m k = i := HI.out.1
  rw [e1]
  clear e1
  go_wp2_with fail
  with_reducible refine (point_is lo hi k i _ ⟨HG.out, i0, HI.out.2, rfl⟩ _).mono ?_
  rintro e w3 ⟨rfl, hb3⟩
  have hr := Read.fore hr hb3
  go_wp2
  go_returns
  exact ⟨rfl, hr⟩
theorem RdAt.lt {base r gb cap m : Nat} {L : List Int} {w : World} (h : RdAt base w r gb cap L m) : r < w.heap.size ∧ gb < w.heap.size := ⟨h.1.lt, (h.2.1.lt gb rfl).2⟩
theorem Read.put {base r gb cap m m0 : Nat} {L : List Int} {w W : World} (h0 : RdAt base w r gb cap L m0) (h : Read base w r gb cap L m W) {p : Addr} (hp : w.heap.size ≤ p.block) (u : Value) : Read base w r gb cap L m (W.setCell p u) :=
  ⟨⟨h.1.1.far (by have := h0.lt.1; omega) u, ownsRow_setCell_other h.1.2.1 (fun e => by have h1 := h0.lt.2; have h2 : gb = p.block := Option.some.inj e; omega) u, h.1.2.2⟩, h.2.setCell (.inr hp) u⟩
set_option maxHeartbeats 2000000 in
theorem pget_any (base r gb cap : Nat) (L : List Int) (m : Nat) (a b c d e' f i j : Int) (w : World) (h : RdAt base w r gb cap L m) (hg1 : GV a b c) (hg2 : GV d e' f) (hm : m + c.toNat + f.toNat ≤ L.length) (hl : L.length ≤ 1048576)
    (hi : numAt L m c.toNat = i ∧ i ≤ gn c) (hj : numAt L (m + c.toNat) f.toNat = j ∧ j ≤ gn f) :
    Calls Tryz.prog 38 #[PL a b c d e' f, .pointer (some ⟨r, 0, none⟩)] w fun e w' => e = .returned (.tuple #[.agg #[.int .i64 (qp a b c i), .int .i64 (qp d e' f j)], .int .i64 0]) ∧ Read base w r gb cap L (m + c.toNat + f.toNat) w' := by
  have HG := Lib.hid (show GV a b c ∧ GV d e' f from ⟨hg1, hg2⟩)
  have HL := Lib.hid (show m + c.toNat + f.toNat ≤ L.length ∧ L.length ≤ 1048576 from ⟨hm, hl⟩)
  have HI := Lib.hid hi
  have HJ := Lib.hid hj
  have hlt := h.lt
  have HT := Lib.hid hlt
  clear hg1 hg2 hm hl hi hj hlt
  go_enter Tryz.func38, Tryz.ntmps38
  go_wp2_with fail
  with_reducible refine (pvalid_yes _ _ _ _ _ _ HG.out.1 HG.out.2 _).mono ?_
  rintro e w1 ⟨rfl, hb⟩
  have hb0 := ((Below.refl w.heap.size w).alloc (Nat.le_refl _) (.cells #[.int .i64 a, .int .i64 b, .int .i64 c, .int .i64 d, .int .i64 e', .int .i64 f] 65)).alloc (by simp) (.cells #[.int .i64 0, .int .i64 0] 58)
  have Bp : Bk w1 w.heap.size #[.int .i64 a, .int .i64 b, .int .i64 c, .int .i64 d, .int .i64 e', .int .i64 f] 65 := Bk.below ((Bk.made _ _ _).alloc _) hb
  have Bv : Bk w1 (w.heap.size + 1) #[.int .i64 0, .int .i64 0] 58 := Bk.below (Bk.at_ (by simp)) hb
  have h1 := (h.below hb0).below hb
  obtain ⟨hB, hS⟩ := below_c (w := w) hb hb0
  clear hb hb0
  have c0 := Bp.cell (v := .int .i64 a) 0 rfl
  have c1 := Bp.cell (v := .int .i64 b) 1 rfl
  have c2 := Bp.cell (v := .int .i64 c) 2 rfl
  go_wp2_with fail
  with_reducible refine (gget_any base r gb cap L m a b c i _ h1 HG.out.1 (by have := HL.out.1; omega) HL.out.2 HI.out.1 HI.out.2).mono ?_
  rintro e w2 ⟨rfl, hr⟩
  have Bp2 := Bp.mut hr.2 (fun hu => by have := HT.out.1; omega)
  have Bv2 := Bv.mut hr.2 (fun hu => by have := HT.out.1; omega)
  have h2 := hr.1
  have hr := Read.back hB hr
  clear Bp Bv h1 hB hS c0 c1 c2
  have c3 := Bp2.cell (v := .int .i64 d) 3 rfl
  have c4 := Bp2.cell (v := .int .i64 e') 4 rfl
  have c5 := Bp2.cell (v := .int .i64 f) 5 rfl
  go_wp2_with fail
  with_reducible refine (gget_any base r gb cap L _ d e' f j _ h2 HG.out.2 HL.out.1 HL.out.2 HJ.out.1 HJ.out.2).mono ?_
  rintro e w3 ⟨rfl, hr3⟩
  have Bv3 := Bv2.mut hr3.2 (fun hu => by have := HT.out.1; omega)
  have hr := hr.trans hr3
  clear Bp2 Bv2 h2 hr3 c3 c4 c5
  have c0 := Bv3.cell (v := .int .i64 0) 0 rfl
  have c1 := Bv3.cell (v := .int .i64 0) 1 rfl
  have f0 := Bv3.free 0
  have f1 := Bv3.free 1
  go_wp2
  refine post_name (fun W => Bk W (w.heap.size + 1) #[.int .i64 (qp a b c i), .int .i64 (qp d e' f j)] 58 ∧ Read base w r gb cap L (m + c.toNat + f.toNat) W) ⟨(Bv3.put 0 _).put 1 _, (hr.put h (p := ⟨w.heap.size + 1, 0, none⟩) (by simp) _).put h (p := ⟨w.heap.size + 1, 1, none⟩) (by simp) _⟩ ?_
  rintro W ⟨BW, hW⟩
  clear c0 c1 f0 f1
  have c0 := BW.cell (v := .int .i64 (qp a b c i)) 0 rfl
  have c1 := BW.cell (v := .int .i64 (qp d e' f j)) 1 rfl
  refine bodyPost_ret (v := .tuple #[.agg #[.int .i64 (qp a b c i), .int .i64 (qp d e' f j)], .int .i64 0]) (by simp [results, Tryz.results38, go_sem, c0, c1]; try rfl) rfl ⟨rfl, hW⟩
/-- a copy of the bytes -/
theorem clone_any (base q : Nat) (s : Value) (xs : List Value) (w : World) (h : w.ownsRow base 5 1 s q xs) (hx : ∀ u ∈ xs, u.oneCell' = true) (hq : 0 < q) (hq2 : q ≤ 1048576) :
    Calls Tryz.prog 71 #[s] w (fun e w' => ∃ g c, e = .returned (.slice (some ⟨g, 0, none⟩) q c) ∧ w'.ownsRow w.heap.size 5 1 (.slice (some ⟨g, 0, none⟩) q c) q xs ∧ Below w.heap.size w w') := by
  obtain ⟨i0, hi, hz0, hz1, hz2⟩ := info_parts infoU8
  obtain ⟨b, cap, rfl, -, -⟩ := h.form hq
  have hown : (w.alloc (.cells #[] 5)).ownsRow w.heap.size 5 1 (.slice (some ⟨w.heap.size, 0, none⟩) 0 0) 0 [] := World.ownsRow_made w #[] 0 (Nat.le_refl _) (by decide) (by decide)
  have hcell : ∀ j u, xs[j]? = some u → (w.alloc (.cells #[] 5)).cell? ((⟨b, 0, none⟩ : Addr).add j) = some u := (h.alloc _).cells (g := b) rfl
  have hxl : xs.length = q * 1 := h.1
  have heq : ∀ w : World, (binOp .eql 59 (.slice (some ⟨b, 0, none⟩) q cap) (.slice none 0 0)).run Tryz.prog w = .ok (.bool false) w := fun w => Lib.run_eql_slice_nil w _ 5 (some ⟨b, 0, none⟩) q cap 0 0 Tryz.underlying59
  have HO := Lib.hid hown
  have HCl := Lib.hid hcell
  have HX := Lib.hid (show (∀ u ∈ xs, u.oneCell' = true) ∧ xs.length = q * 1 from ⟨hx, hxl⟩)
  clear hown hcell hx hxl
  go_enter Tryz.func71, Tryz.ntmps71
  go_wp2_with (at_builtin; refine wpList_append_own _ rfl _ _ 59 rfl w.heap.size 5 i0 (.int .u8 0) 1 1 Tryz.underlying59 hi hz0 hz1 hz2 rfl (by decide) _ 0 [] rfl HO.out ⟨b, 0, none⟩ q cap xs rfl HX.out.2 HCl.out HX.out.1 ?c1 ?c2 (by simp) ?_)
  case c1 => unfold maxLen; omega
  case c2 => omega
  intro v' w1 hown' hgrow _
  obtain ⟨g, cap', rfl, -, -⟩ := hown'.form hq
  go_wp2
  go_returns
  exact ⟨_, _, rfl, hown', ((Below.refl _ _).alloc (Nat.le_refl _) _).grown hgrow (by simp) (by intro k hk; cases hk; exact Nat.le_refl _)⟩
theorem packV_one (l : List Int) : ∀ u ∈ packV l, u.oneCell' = true := by
  intro u hu
  unfold packV at hu
  obtain ⟨x, -, rfl⟩ := List.mem_map.1 hu
  rfl
/-- the bytes that a Writer holds -/
def CopyOf (w : World) (l : List Int) (q : Nat) (v : Value) (w' : World) : Prop := ∃ g c, v = .slice (some ⟨g, 0, none⟩) q c ∧ w'.ownsRow w.heap.size 5 1 (.slice (some ⟨g, 0, none⟩) q c) q (packV l) ∧ Below w.heap.size w w'
theorem bytes_any (base g : Nat) (s : Value) (l : List Int) (w : World) (h : WrAt base w g s l) (hl : 0 < l.length) (hl2 : l.length ≤ 1048576) :
    Calls Tryz.prog 34 #[.pointer (some ⟨g, 0, none⟩)] w fun e w' => ∃ v, e = .returned v ∧ CopyOf w l ((l.length + 7) / 8) v w' := by
  obtain ⟨q, hq⟩ : ∃ q, (l.length + 7) / 8 = q := ⟨_, rfl⟩
  have hq1 : 0 < q := by omega
  have hq2 : q ≤ 1048576 := by omega
  obtain ⟨hB, hown, -⟩ := h
  rw [hq] at hown ⊢
  obtain ⟨b, cap, rfl, -, -⟩ := hown.form hq1
  have c0 := hB.cell (v := .slice (some ⟨b, 0, none⟩) q cap) 0 rfl
  clear hq hl hl2
  go_enter Tryz.func34, Tryz.ntmps34
  go_wp2_with fail
  with_reducible refine (clone_any base q _ (packV l) _ hown (packV_one l) hq1 hq2).mono ?_
  rintro e w1 ⟨g2, c, rfl, hown2, hb⟩
  go_wp2
  go_returns
  exact ⟨_, rfl, _, _, rfl, hown2, hb⟩
theorem reader_any (base q : Nat) (s : Value) (l : List Int) (w : World) (h : w.ownsRow base 5 1 s q (packV l)) (hl : IsBits l) (hq : (l.length + 7) / 8 = q) (hq1 : 0 < q) (hq2 : q ≤ 1048576) :
    Calls Tryz.prog 35 #[s] w fun e w' => ∃ r gb cap, e = .returned (.pointer (some ⟨r, 0, none⟩)) ∧ w.heap.size ≤ r ∧ w.heap.size ≤ gb ∧ RdAt w.heap.size w' r gb cap l 0 ∧ Below w.heap.size w w' := by
  have HQ := Lib.hid hq
  obtain ⟨b, cap, rfl, -, -⟩ := h.form hq1
  clear hq
  go_enter Tryz.func35, Tryz.ntmps35
  go_wp2_with fail
  with_reducible refine (clone_any base q _ (packV l) _ h (packV_one l) hq1 hq2).mono ?_
  rintro e w1 ⟨g2, c, rfl, hown2, hb⟩
  go_wp2
  go_returns
  refine ⟨_, g2, c, rfl, hb.size, (hown2.lt g2 rfl).1, ⟨?_, ?_, hl⟩, hb.alloc hb.size _⟩
  · rw [HQ.out]; exact Bk.made _ _ _
  · rw [HQ.out]; exact hown2.alloc _
end Go.Proofs.YtghfggfgndgkjaaGreatDoor
