/- Contracts of bits.Writer and bits.Reader. -/
import Derived.Test.YtghfggfgndgkjaaGreatDoorAppend
import Derived.Test.YtghfggfgndgkjaaGreatDoorBitsPlain
import Derived.BigRegion
set_option linter.unusedVariables false
set_option linter.unusedSimpArgs false
namespace Go.Proofs.YtghfggfgndgkjaaGreatDoor
open Go Go.RowKit Go.Sort
set_option maxRecDepth 100000
attribute [local go_sem] opLow opUpon

theorem infoU8 : (Tryz.prog.info? 5).map (fun i => (i.zero, i.size, i.bytes)) = some (some (.int .u8 0), 1, 1) := by kernel_rfl
/-- the bytes that a list of bits is packed into -/
def packV (l : List Int) : List Value := (pack l).map (.int .u8)
theorem packV_length (l : List Int) : (packV l).length = (l.length + 7) / 8 := by unfold packV; rw [List.length_map, pack_length]
theorem packV_at (l : List Int) (i : Nat) (h : i < (l.length + 7) / 8) : (packV l)[i]? = some (.int .u8 (byteOf l i)) := by
  unfold packV pack
  simp [h]
/-- a Writer that holds these bits -/
def WrAt (base : Nat) (w : World) (g : Nat) (s : Value) (l : List Int) : Prop :=
  Bk w g #[s, .int .i64 (l.length : Nat)] 61 ∧ w.ownsRow base 5 1 s ((l.length + 7) / 8) (packV l) ∧ IsBits l
/-- the byte that put writes -/
theorem upd_byte (L : List Int) (n : Int) (s m : Nat) (hb : IsBits L) (hm : L.length = m) (h0 : 0 ≤ n) (h1 : n < 18446744073709551616) :
    bits .or .u8 (byteOf L (m / 8)) (bits .and .u64 (n / 2 ^ s) 1 % 256 * 2 ^ (7 - m % 8) % 256) = byteOf (L ++ [n / 2 ^ s % 2]) (m / 8) := by
  subst hm
  have hp : (0 : Int) < 2 ^ s := Int.pow_pos (by decide)
  have hq0 : 0 ≤ n / 2 ^ s := Int.ediv_nonneg h0 (by omega)
  have hq1 : n / 2 ^ s ≤ n := Int.ediv_le_self _ h0
  have hp7 : (2 : Int) ^ (7 - L.length % 8) ≤ 128 ∧ 0 < (2 : Int) ^ (7 - L.length % 8) := by
    have hr : L.length % 8 < 8 := Nat.mod_lt _ (by omega)
    generalize L.length % 8 = r at *
    rcases (by omega : r = 0 ∨ r = 1 ∨ r = 2 ∨ r = 3 ∨ r = 4 ∨ r = 5 ∨ r = 6 ∨ r = 7) with rfl | rfl | rfl | rfl | rfl | rfl | rfl | rfl <;> decide
  rw [u64_and _ _ hq0 (by omega) (by decide) (by decide), show (1 : Int).toNat = 1 from rfl, nat_mask1]
  have e : (((n / 2 ^ s).toNat % 2 : Nat) : Int) = n / 2 ^ s % 2 := by omega
  rw [e]
  generalize n / 2 ^ s = q at *
  rw [Int.emod_eq_of_lt (a := q % 2) (by omega) (by omega)]
  rcases (by omega : q % 2 = 0 ∨ q % 2 = 1) with hq | hq
  · rw [hq, Int.zero_mul, Int.zero_emod]; have := byteOf_or hb (v := 0) (.inl rfl); rwa [Int.zero_mul] at this
  · rw [hq, Int.one_mul, Int.emod_eq_of_lt (by omega) (by omega)]; have := byteOf_or hb (v := 1) (.inr rfl); rwa [Int.one_mul] at this
theorem packV_same (l : List Int) (v : Int) (m : Nat) (hm : l.length = m) (h : m % 8 ≠ 0) : (packV l).set (m / 8) (.int .u8 (byteOf (l ++ [v]) (m / 8))) = packV (l ++ [v]) := by
  subst hm
  unfold packV; rw [← pack_same l v h, List.map_set]
theorem packV_more (l : List Int) (v : Int) (m : Nat) (hm : l.length = m) (h : m % 8 = 0) : (packV l ++ [Value.int .u8 0]).set (m / 8) (.int .u8 (byteOf (l ++ [v]) (m / 8))) = packV (l ++ [v]) := by
  subst hm
  unfold packV; rw [← pack_more l v h, List.map_set, List.map_append]; rfl

set_option maxHeartbeats 4000000 in
theorem put_any (base g : Nat) (s : Value) (l : List Int) (n : Int) (k : Nat) (w : World) (h : WrAt base w g s l) (h0 : 0 ≤ n) (h1 : n < 18446744073709551616) (hk : k ≤ 64) (hl : l.length + 128 < 1048576) (hbg : base ≤ w.heap.size) :
    Calls Tryz.prog 66 #[.pointer (some ⟨g, 0, none⟩), .int .u64 n, .int .i64 k] w fun e w' => e = .returned (.tuple #[]) ∧ ∃ s', WrAt base w' g s' (l ++ bitsOf n k) ∧ Mut (fun b => b = g ∨ s.ownBlock = some b) w w' ∧ (∀ b, s'.ownBlock = some b → s.ownBlock = some b ∨ w.heap.size ≤ b) := by
  go_enter Tryz.func66, Tryz.ntmps66
  go_wp2
  go_loopw [8] (fun v8 wr => ∃ (i : Nat) (s' : Value), i ≤ k ∧ v8 = .int .i64 i ∧ WrAt base wr g s' (l ++ upTo n k i) ∧ Mut (fun b => b = g ∨ s.ownBlock = some b) w wr ∧ (∀ b, s'.ownBlock = some b → s.ownBlock = some b ∨ w.heap.size ≤ b)) (fun v8 _ => k - (intOf v8).toNat)
  case atStart => exact ⟨0, s, by omega, rfl, by rw [upTo_zero, List.append_nil]; exact h, Mut.refl _ _, fun b hb => .inl hb⟩
  case round =>
    obtain ⟨i, s', hik, rfl, ⟨hB, hown, hbits⟩, hM, hO⟩ := hrel
    by_cases hlt : i < k
    · obtain ⟨m, hm⟩ : ∃ m, (l ++ upTo n k i).length = m := ⟨_, rfl⟩
      have hmm : m + 1 < 1048576 := by rw [← hm, List.length_append, upTo_length _ _ _ hik]; omega
      rw [hm] at hB hown
      have hsz := hM.size
      have c0 := hB.cell (v := s') 0 rfl
      have c1 := hB.cell (v := .int .i64 m) 1 rfl
      have f0 := hB.free 0
      have lt := hB.lt
      have hne : some g ≠ s'.ownBlock := bk_ne_row hB (by decide) hown
      by_cases hm8 : m % 8 = 0
      · obtain ⟨i0, hi, hz0, hz1, hz2⟩ := info_parts infoU8
        have hlen : (m + 7) / 8 = m / 8 := by omega
        rw [hlen] at hown
        go_wp2_with (at_builtin; refine wpList_append_mine _ rfl _ _ 59 rfl base 5 i0 (.int .u8 0) 1 1 Tryz.underlying59 hi hz0 hz1 hz2 rfl (by decide) _ _ _ rfl (hown.alloc _) ⟨wr.heap.size, 0, none⟩ 1 1 [.int .u8 0] rfl rfl ?c1 ?c2 ?c3 ?c4 ?c5 ?c6 ?_)
        case c1 => intro j u hj; match j, hj with | 0, hj => (simp at hj; subst hj; simp [Addr.add])
        case c2 => intro u hu; simp at hu; subst hu; rfl
        case c3 => decide
        case c4 => unfold maxLen; omega
        case c5 => omega
        case c6 => simp; omega
        intro gb cap w1 hown' hgrow hgb
        have hB1 : Bk w1 g #[s', .int .i64 m] 61 := (hgrow.block g (by simp; omega) hne).trans (hB.alloc _)
        have f0' := hB1.free 0
        have c0' := hB1.cell (v := s') 0 rfl
        go_wp2
        refine wp_name (fun W => Bk W g #[.slice (some ⟨gb, 0, none⟩) (m / 8 + 1) cap, .int .i64 m] 61 ∧ W.ownsRow base 5 1 (.slice (some ⟨gb, 0, none⟩) (m / 8 + 1) cap) (m / 8 + 1) (packV (l ++ upTo n k i) ++ [.int .u8 0]) ∧
          Mut (fun b => b = g ∨ s.ownBlock = some b) w W ∧ (s.ownBlock = some gb ∨ w.heap.size ≤ gb)) ⟨hB1.put 0 _, ?n1, ?n2, ?n3⟩ ?_
        case n1 => exact ownsRow_setCell_other hown' (a := ⟨g, 0, none⟩) (fun e => bk_ne_row hB1 (by decide) hown' e.symm) _
        case n2 => exact ((hM.alloc _).grown hgrow (fun b hb => (hO b hb).imp .inr id)).setCell (.inl (.inl rfl)) _
        case n3 =>
          rcases hgb with h1 | h1
          · exact hO _ h1
          · right; first | omega | (simp at h1; omega)
        rintro W ⟨hB2, hown2, hM2, hO2⟩
        clear hB hown hM hO hB1 hown' hgrow hne c0 c1 f0 f0' c0' lt hsz
        have r0 : W.cell? ⟨gb, m / 8, none⟩ = some (.int .u8 (byteOf (l ++ upTo n k i) (m / 8))) := by
          rw [hown2.cellAt _ (by omega), List.getElem?_append_right (by rw [packV_length, hm]; omega), packV_length, hm, show m / 8 - (m + 7) / 8 = 0 by omega]
          have := byteOf_new (l ++ upTo n k i) (by rw [hm]; exact hm8)
          rw [hm] at this
          rw [this]; rfl
        have hset := packV_more (l ++ upTo n k i) (n / 2 ^ (k - 1 - i) % 2) m hm hm8
        obtain ⟨q, hq⟩ : ∃ q, m / 8 + 1 = q := ⟨_, rfl⟩
        rw [hq] at hB2 hown2
        have hq2 : (m + 1 + 7) / 8 = q := by omega
        have r1 : W.frozen? ⟨gb, m / 8, none⟩ = false := hown2.frozenAt _
        have hgne : g ≠ gb := fun e => bk_ne_row hB2 (by decide) hown2 (by rw [e]; rfl)
        have c0 := hB2.cell (v := .slice (some ⟨gb, 0, none⟩) q cap) 0 rfl
        have c1 := hB2.cell (v := .int .i64 m) 1 rfl
        have hlq : m / 8 < q := by omega
        have HQ := Lib.hid hq2
        have HM8 := Lib.hid hm8
        clear hq hq2
        go_region
        have hu := upd_byte (l ++ upTo n k i) n (k - 1 - i) m hbits hm h0 h1
        refine at_name (R := Exit.then _ _ Exit.normal) (fun W' => Bk W' g #[.slice (some ⟨gb, 0, none⟩) q cap, .int .i64 m] 61 ∧ W'.ownsRow base 5 1 (.slice (some ⟨gb, 0, none⟩) q cap) q (packV (l ++ upTo n k (i + 1))) ∧ Mut (fun b => b = g ∨ s.ownBlock = some b) w W') ⟨?m1, ?m2, ?m3⟩ ?_
        case m1 => exact hB2.far (p := ⟨gb, m / 8, none⟩) hgne _
        case m2 =>
          have := (hown2.stored (m / 8) (.int .u8 (byteOf (l ++ upTo n k i ++ [n / 2 ^ (k - 1 - i) % 2]) (m / 8)))).1
          rw [hset, ← hu, List.append_assoc, ← upTo_succ n k i hlt] at this
          first | exact this | (rw [HM8.out, show (2 : Int) ^ (7 - 0) = 128 from rfl] at this; exact this)
        case m3 => exact (hM2.setCell (p := ⟨gb, m / 8, none⟩) (hO2.imp .inr id) _).drew
        clear c0 c1 hB2 hown2 hM2 r0 r1 hset hu
        rintro W3 ⟨hB3, hown3, hM3⟩
        have c1 := hB3.cell (v := .int .i64 m) 1 rfl
        have f1 := hB3.free 1
        go_wp2
        go_roundw
        case rel => exact ⟨i + 1, .slice (some ⟨gb, 0, none⟩) q cap, by omega, by go_num, ⟨by rw [show ((l ++ upTo n k (i + 1)).length : Nat) = m + 1 by rw [upTo_succ n k i hlt, ← List.append_assoc, List.length_append, hm]; rfl]; exact hB3.put 1 _,
          by rw [show ((l ++ upTo n k (i + 1)).length : Nat) = m + 1 by rw [upTo_succ n k i hlt, ← List.append_assoc, List.length_append, hm]; rfl, HQ.out]; exact ownsRow_setCell_other hown3 (a := ⟨g, 1, none⟩) (fun e => hgne (Option.some.inj e).symm) _, isBits_upTo h.2.2 n k (i + 1) (by omega)⟩, hM3.setCell (.inl (.inl rfl)) _, fun b hb => by cases hb; exact hO2⟩
        case measure => simp [intOf]; omega
      · have hlen : (m + 7) / 8 = m / 8 + 1 := by omega
        rw [hlen] at hown
        obtain ⟨gb, cap, hv, -, -⟩ := hown.form (by omega)
        subst hv
        refine wp_name (fun W => Bk W g #[.slice (some ⟨gb, 0, none⟩) (m / 8 + 1) cap, .int .i64 m] 61 ∧ W.ownsRow base 5 1 (.slice (some ⟨gb, 0, none⟩) (m / 8 + 1) cap) (m / 8 + 1) (packV (l ++ upTo n k i)) ∧
          Mut (fun b => b = g ∨ s.ownBlock = some b) w W ∧ (s.ownBlock = some gb ∨ w.heap.size ≤ gb)) ⟨hB, hown, hM, hO _ rfl⟩ ?_
        rintro W ⟨hB2, hown2, hM2, hO2⟩
        clear hB hown hM hO hne c0 c1 f0 lt hsz
        have r0 : W.cell? ⟨gb, m / 8, none⟩ = some (.int .u8 (byteOf (l ++ upTo n k i) (m / 8))) := by
          rw [hown2.cellAt _ (by omega), packV_at _ _ (by rw [hm]; omega)]
        have hset := packV_same (l ++ upTo n k i) (n / 2 ^ (k - 1 - i) % 2) m hm hm8
        obtain ⟨q, hq⟩ : ∃ q, m / 8 + 1 = q := ⟨_, rfl⟩
        rw [hq] at hB2 hown2
        have hq2 : (m + 1 + 7) / 8 = q := by omega
        have c1 := hB2.cell (v := .int .i64 m) 1 rfl
        go_wp2
        have r1 : W.frozen? ⟨gb, m / 8, none⟩ = false := hown2.frozenAt _
        have hgne : g ≠ gb := fun e => bk_ne_row hB2 (by decide) hown2 (by rw [e]; rfl)
        have c0 := hB2.cell (v := .slice (some ⟨gb, 0, none⟩) q cap) 0 rfl
        have c1 := hB2.cell (v := .int .i64 m) 1 rfl
        have hlq : m / 8 < q := by omega
        have HQ := Lib.hid hq2
        have HM8 := Lib.hid hm8
        clear hq hq2
        go_region
        have hu := upd_byte (l ++ upTo n k i) n (k - 1 - i) m hbits hm h0 h1
        refine at_name (R := Exit.then _ _ Exit.normal) (fun W' => Bk W' g #[.slice (some ⟨gb, 0, none⟩) q cap, .int .i64 m] 61 ∧ W'.ownsRow base 5 1 (.slice (some ⟨gb, 0, none⟩) q cap) q (packV (l ++ upTo n k (i + 1))) ∧ Mut (fun b => b = g ∨ s.ownBlock = some b) w W') ⟨?m1, ?m2, ?m3⟩ ?_
        case m1 => exact hB2.far (p := ⟨gb, m / 8, none⟩) hgne _
        case m2 =>
          have := (hown2.stored (m / 8) (.int .u8 (byteOf (l ++ upTo n k i ++ [n / 2 ^ (k - 1 - i) % 2]) (m / 8)))).1
          rw [hset, ← hu, List.append_assoc, ← upTo_succ n k i hlt] at this
          first | exact this | (rw [HM8.out, show (2 : Int) ^ (7 - 0) = 128 from rfl] at this; exact this)
        case m3 => exact (hM2.setCell (p := ⟨gb, m / 8, none⟩) (hO2.imp .inr id) _).drew
        clear c0 c1 hB2 hown2 hM2 r0 r1 hset hu
        rintro W3 ⟨hB3, hown3, hM3⟩
        have c1 := hB3.cell (v := .int .i64 m) 1 rfl
        have f1 := hB3.free 1
        go_wp2
        go_roundw
        case rel => exact ⟨i + 1, .slice (some ⟨gb, 0, none⟩) q cap, by omega, by go_num, ⟨by rw [show ((l ++ upTo n k (i + 1)).length : Nat) = m + 1 by rw [upTo_succ n k i hlt, ← List.append_assoc, List.length_append, hm]; rfl]; exact hB3.put 1 _,
          by rw [show ((l ++ upTo n k (i + 1)).length : Nat) = m + 1 by rw [upTo_succ n k i hlt, ← List.append_assoc, List.length_append, hm]; rfl, HQ.out]; exact ownsRow_setCell_other hown3 (a := ⟨g, 1, none⟩) (fun e => hgne (Option.some.inj e).symm) _, isBits_upTo h.2.2 n k (i + 1) (by omega)⟩, hM3.setCell (.inl (.inl rfl)) _, fun b hb => by cases hb; exact hO2⟩
        case measure => simp [intOf]; omega
    · have hk2 : i = k := by omega
      subst hk2
      rw [upTo_all] at *
      go_wp2
      go_end0
      exact ⟨rfl, s', ⟨hB, hown, hbits⟩, hM, hO⟩
theorem row_below {w w' : World} {base e size n : Nat} {v : Value} {xs : List Value} (h : w.ownsRow base e size v n xs) (hb : Below w.heap.size w w') : w'.ownsRow base e size v n xs := by
  obtain ⟨h1, h2⟩ := h
  refine ⟨h1, ?_⟩
  rcases h2 with h2 | ⟨g, cap, cur, hv, hg, hh, r⟩
  · exact .inl h2
  · exact .inr ⟨g, cap, cur, hv, hg, (hb.block g (Array.getElem?_eq_some_iff.1 hh).1).trans hh, r⟩
theorem WrAt.below {base g : Nat} {s : Value} {l : List Int} {w w' : World} (h : WrAt base w g s l) (hb : Below w.heap.size w w') : WrAt base w' g s l := ⟨h.1.below hb, row_below h.2.1 hb, h.2.2⟩
/-- what a call that writes to a Writer leaves -/
def Wrote (base : Nat) (w : World) (g : Nat) (s : Value) (l : List Int) (w' : World) : Prop :=
  ∃ s', WrAt base w' g s' l ∧ Mut (fun b => b = g ∨ s.ownBlock = some b) w w' ∧ (∀ b, s'.ownBlock = some b → s.ownBlock = some b ∨ w.heap.size ≤ b)
theorem Wrote.back {base g : Nat} {s : Value} {l : List Int} {w0 w w' : World} (hb : Below w0.heap.size w0 w) (h : Wrote base w g s l w') : Wrote base w0 g s l w' := by
  obtain ⟨s', h1, h2, h3⟩ := h
  exact ⟨s', h1, (Mut.of_below (U := fun b => b = g ∨ s.ownBlock = some b) hb).trans h2 (fun _ _ h => h), fun b hb' => (h3 b hb').imp id (fun h => Nat.le_trans hb.size h)⟩
theorem Wrote.fore {base g : Nat} {s : Value} {l : List Int} {w w1 w2 : World} (h : Wrote base w g s l w1) (hb : Below w1.heap.size w1 w2) : Wrote base w g s l w2 := by
  obtain ⟨s', h1, h2, h3⟩ := h
  exact ⟨s', h1.below hb, h2.trans (Mut.of_below (U := fun b => b = g ∨ s.ownBlock = some b) hb) (fun _ _ h => h), h3⟩

theorem room_any (base g : Nat) (s : Value) (l : List Int) (k : Int) (w : World) (h : WrAt base w g s l) (k0 : 0 ≤ k) (hk : l.length + k ≤ 1048576) :
    Calls Tryz.prog 65 #[.pointer (some ⟨g, 0, none⟩), .int .i64 k] w fun e w' => e = .returned (.int .i64 0) ∧ Below w.heap.size w w' := by
  have c1 := h.1.cell (v := .int .i64 (l.length : Nat)) 1 rfl
  have e1 : (0 : Int) ≤ (l.length : Int) := by omega
  generalize ((l.length : Nat) : Int) = m at *
  go_enter Tryz.func65, Tryz.ntmps65
  go_wp2
  go_returns
  exact ⟨rfl, by go_grown⟩
theorem len_any (base g : Nat) (s : Value) (l : List Int) (w : World) (h : WrAt base w g s l) :
    Calls Tryz.prog 32 #[.pointer (some ⟨g, 0, none⟩)] w fun e w' => e = .returned (.int .i64 (l.length : Nat)) ∧ Below w.heap.size w w' := by
  have c1 := h.1.cell (v := .int .i64 (l.length : Nat)) 1 rfl
  go_enter Tryz.func32, Tryz.ntmps32
  go_wp2
  go_returns
  exact ⟨rfl, by go_grown⟩
set_option maxHeartbeats 1000000 in
theorem wput_any (base g : Nat) (s : Value) (l : List Int) (n : Int) (k : Nat) (w : World) (h : WrAt base w g s l) (h0 : 0 ≤ n) (h1 : n < 2 ^ k) (hk : k ≤ 32) (hl : l.length + 128 < 1048576) (hbg : base ≤ w.heap.size) :
    Calls Tryz.prog 28 #[.pointer (some ⟨g, 0, none⟩), .int .u64 n, .int .i64 k] w fun e w' => e = .returned (.int .i64 0) ∧ Wrote base w g s (l ++ bitsOf n k) w' := by
  have hp : (2 : Int) ^ k ≤ 2 ^ 32 := by exact_mod_cast Nat.pow_le_pow_right (n := 2) (by decide) hk
  have hp2 : (2 : Int) ^ 32 = 4294967296 := rfl
  have hz : n / 2 ^ k = 0 := Int.ediv_eq_zero_of_lt h0 h1
  have HL := Lib.hid hl
  have H1 := Lib.hid (show n < 18446744073709551616 by omega)
  clear h1 hp hp2 hl
  go_enter Tryz.func28, Tryz.ntmps28
  go_wp2_with fail
  with_reducible refine (room_any base g s l _ _ h (by omega) (by have := HL.out; omega)).mono ?_
  rintro e w1 ⟨rfl, hb⟩
  have hW := h.below hb
  have hs := hb.size
  go_wp2_with fail
  with_reducible refine (put_any base g s l n k _ hW h0 H1.out (by omega) HL.out (by omega)).mono ?_
  rintro e w2 ⟨rfl, hw⟩
  have hw := Wrote.back hb hw
  go_wp2
  go_returns
  exact ⟨rfl, hw⟩
end Go.Proofs.YtghfggfgndgkjaaGreatDoor
