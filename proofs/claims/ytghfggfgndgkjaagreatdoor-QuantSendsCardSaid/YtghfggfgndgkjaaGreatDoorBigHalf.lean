/- marchesref21.half: floor(a * b / c + 1/2) for numbers that are not negative. -/
import Derived.Test.YtghfggfgndgkjaaGreatDoorBigDivi
set_option linter.unusedVariables false
set_option linter.unusedSimpArgs false
namespace Go.Proofs.YtghfggfgndgkjaaGreatDoor
open Go.RowKit
set_option maxRecDepth 100000
attribute [local go_sem] opLow opUpon opLow2 opUpon2 opLow3

theorem S2.mono {base base' : Nat} {V : World} {v : Value} {P : Nat} (h : S2 base V v P) (hb : base' ≤ base) : S2 base' V v P := by
  rcases h with h | ⟨h0, b, h1, h2⟩
  · exact .inl h
  · exact .inr ⟨h0, b, Nat.le_trans hb h1, h2⟩
theorem S2.mut {base : Nat} {U : Nat → Prop} {w V : World} {v : Value} {P : Nat} (h : S2 base w v P) (hm : Mut U w V) (hU : ∀ k, base ≤ k → k < w.heap.size → ¬ U k) : S2 base V v P := by
  rcases h with h | ⟨h0, b, h1, h2, h3⟩
  · exact .inl h
  · exact .inr ⟨h0, b, h1, h2, h3.mut hm (hU b h1 h3.lt)⟩
theorem lenN_eq_one {P : Nat} (h0 : 0 < P) (h : P < 18446744073709551616) : lenN P = 1 := by
  unfold lenN
  rw [if_pos h, if_neg (by omega)]
theorem S2.read {base : Nat} {V : World} {v : Value} {P : Nat} (h : S2 base V v P) (h0 : 0 < P) : RN V v P := by
  rcases h with ⟨h, _⟩ | ⟨_, b, h1, h2, h3⟩
  · omega
  · exact ⟨h0, b, 6, _, h2, h3, rfl, fun _ => rfl⟩
theorem mul_two (base g gy P : Nat) (v vb : Value) (hb : base ≤ g) (hP : P * 2 < 18446744073709551616 * 18446744073709551616) (hgy : g ≠ gy) (w : World) (hg : Bk w g #[.bool false, v] 146) (hS : S2 base w v P) (hy : Bk w gy #[.bool false, vb] 146) (hB : S1 w vb 2) :
    Calls Tryz.prog 93 #[.pointer (some ⟨g, 0, none⟩), .pointer (some ⟨g, 0, none⟩), .pointer (some ⟨gy, 0, none⟩)] w fun e w' => e = .returned (.pointer (some ⟨g, 0, none⟩)) ∧ (∃ v', Bk w' g #[.bool false, v'] 146 ∧ S2 base w' v' (P * 2)) ∧ Mut (fun k => base ≤ k) w w' := by
  rcases hS with ⟨rfl, rfl⟩ | ⟨h0, b, h1, rfl, h3⟩
  · exact (iMul_zero g gy 2 vb (by omega) hgy w hg hy hB).mono fun e w' ⟨he, h, hm⟩ => ⟨he, ⟨_, h, .inl ⟨rfl, rfl⟩⟩, hm.mono (fun x _ e => by rw [e]; exact hb)⟩
  · exact (iMul_re g gy b P 2 vb h0 (by omega) (by omega) (by omega) hP hgy w hg h3 hy hB).mono fun e w' ⟨he, h, h4, hm⟩ => ⟨he, ⟨_, h, .inr ⟨by omega, b, h1, rfl, h4⟩⟩, hm.mono (fun x _ e => by rcases e with e | e <;> rw [e] <;> assumption)⟩
theorem bigAdd_any (base g gy P c : Nat) (v vb : Value) (hb : base ≤ g) (hc0 : 0 < c) (hc : c < 18446744073709551616) (hP : P < 18446744073709551616 * 18446744073709551615) (hgy : g ≠ gy) (w : World) (hg : Bk w g #[.bool false, v] 146) (hS : S2 base w v P) (hy : Bk w gy #[.bool false, vb] 146) (hB : S1 w vb c) :
    Calls Tryz.prog 95 #[.pointer (some ⟨g, 0, none⟩), .pointer (some ⟨g, 0, none⟩), .pointer (some ⟨gy, 0, none⟩)] w fun e w' => e = .returned (.pointer (some ⟨g, 0, none⟩)) ∧ (∃ v', Bk w' g #[.bool false, v'] 146 ∧ RN w' v' (P + c)) ∧ Mut (fun k => base ≤ k) w w' := by
  rcases hB with ⟨rfl, _⟩ | ⟨_, by_, rfl, hby⟩
  · omega
  rcases hS with ⟨rfl, rfl⟩ | ⟨h0, b, h1, rfl, h3⟩
  · refine (iAdd_zero g gy by_ c hgy w hg hy hby).mono fun e w' ⟨b2, he, h, h4, hm⟩ => ⟨he, ⟨_, h, ?_⟩, hm.mono (fun x _ e => by rw [e]; exact hb)⟩
    rw [Nat.zero_add]
    refine ⟨hc0, b2, 1, _, ?_, h4, ?_, fun h => absurd h (by omega)⟩
    · rw [lenN_eq_one hc0 hc]
    · rw [Nat.mod_eq_of_lt hc]; rfl
  · exact (iAdd_re g gy b by_ P c h0 hc hP hgy w hg h3 hy hby).mono fun e w' ⟨he, h, h4, hm⟩ => ⟨he, ⟨_, h, ⟨by omega, b, 6, _, rfl, h4, rfl, fun _ => rfl⟩⟩, hm.mono (fun x _ e => by rcases e with e | e <;> rw [e] <;> assumption)⟩
theorem RN.mut {w V : World} {v : Value} {P g : Nat} {u : Array Value} (h : RN w v P) (hg : Bk w g u 146) (hm : Mut (fun k => k = g) w V) : RN V v P := by
  obtain ⟨h0, b, cap, cs, h1, h2, h3⟩ := h
  exact ⟨h0, b, cap, cs, h1, h2.mut hm (fun e => word_ne_int hg h2 e.symm), h3⟩
theorem S2.one {base : Nat} {V : World} {v : Value} {P : Nat} (h : S2 base V v P) (h0 : 0 < P) (hP : P < 18446744073709551616) : ∃ bv c1, v = .slice (some ⟨bv, 0, none⟩) 1 6 ∧ Bk V bv (W6 P c1 0 0 0 0) 171 := by
  rcases h with ⟨h, _⟩ | ⟨_, b, h1, h2, h3⟩
  · omega
  · rw [lenN_eq_one h0 hP] at h2
    rw [Nat.mod_eq_of_lt hP] at h3
    exact ⟨b, _, h2, h3⟩
set_option maxHeartbeats 4000000 in
theorem half_any (a b c : Nat) (ha : a < 4398046511104) (hb : b < 4398046511104) (hc0 : 0 < c) (hc : c < 4398046511104) (hq : (a * b * 2 + c) / (c * 2) < 9223372036854775808) (w : World) :
    Calls Tryz.prog 70 #[.int .i64 a, .int .i64 b, .int .i64 c] w fun e w' => e = .returned (.int .i64 ((a * b * 2 + c) / (c * 2) : Nat)) ∧ Below w.heap.size w w' := by
  have hab : a * b ≤ 4398046511104 * 4398046511104 := Nat.mul_le_mul (by omega) (by omega)
  have BA := Lib.hid (fun V => big_any a (by omega) V)
  have BB := Lib.hid (fun V => big_any b (by omega) V)
  have BC := Lib.hid (fun V => big_any c (by omega) V)
  have B2 := Lib.hid (fun V => newint_any 2 (by omega) V)
  have M1 := Lib.hid (fun gz gx gy va vb p q r V => iMul_new gz gx gy a b va vb (by omega) (by omega) p q r V)
  have M3 := Lib.hid (fun gz gx gy va vb p q r V => iMul_new gz gx gy c 2 va vb (by omega) (by omega) p q r V)
  have FL := Lib.hid (fun gx gy bv c1 c2 c3 c4 c5 v V => refFloor_any gx gy bv (a * b * 2 + c) (c * 2) c1 c2 c3 c4 c5 v (by omega) (by omega) (by omega) (by omega) V)
  have IN := Lib.hid (fun g v V => int64_any g ((a * b * 2 + c) / (c * 2)) v hq V)
  have M2 := Lib.hid (fun base g gy v vb p q V => mul_two base g gy (a * b) v vb p (by omega) q V)
  have AD := Lib.hid (fun base g gy v vb p q V => bigAdd_any base g gy (a * b * 2) c v vb p hc0 (by omega) (by omega) q V)
  have HC := Lib.hid (And.intro hc0 hc)
  obtain ⟨P, hP⟩ : ∃ k, a * b = k := ⟨_, rfl⟩
  rw [hP] at FL IN M2 AD M1 ⊢
  obtain ⟨A, hA⟩ : ∃ k, (P * 2 + c) / (c * 2) = k := ⟨_, rfl⟩
  rw [hA] at FL IN ⊢
  clear hP hA hab hq ha hb hc0 hc
  go_enter Tryz.func70, Tryz.ntmps70
  go_wp2_with fail
  have b0 : Below w.heap.size w (w.alloc (.cells #[.bool false, .slice none 0 0] 146)) := by go_grown
  have z0 := Bk.made w #[.bool false, .slice none 0 0] 146
  refine (BA.out _).mono ?_
  rintro e V1 ⟨ga, va, rfl, l1, h1, s1, b1⟩
  have F1 := Lib.hid (And.intro (z0.below b1) (And.intro h1 (And.intro s1 (And.intro (Nat.ne_of_lt (Nat.lt_of_lt_of_le z0.lt l1)) (b0.trans (b1.mono b0.size))))))
  clear b0 z0 l1 h1 s1 b1 BA
  go_wp2_with fail
  refine (BB.out _).mono ?_
  rintro e V2 ⟨gb, vb, rfl, l2, h2, s2, b2⟩
  have F2 := Lib.hid (And.intro (F1.out.1.below b2) (And.intro (F1.out.2.1.below b2) (And.intro (F1.out.2.2.1.below b2) (And.intro h2 (And.intro s2 (And.intro F1.out.2.2.2.1 (And.intro (Nat.ne_of_lt (Nat.lt_of_lt_of_le F1.out.1.lt l2)) (And.intro (Nat.ne_of_lt (Nat.lt_of_lt_of_le F1.out.2.1.lt l2)) (F1.out.2.2.2.2.trans (b2.mono F1.out.2.2.2.2.size))))))))))
  clear l2 h2 s2 b2 F1 BB
  go_wp2_with fail
  refine (M1.out _ _ _ _ _ F2.out.2.2.2.2.2.2.2.1 F2.out.2.2.2.2.2.1 F2.out.2.2.2.2.2.2.1 _ F2.out.1 F2.out.2.1 F2.out.2.2.2.1 F2.out.2.2.1 F2.out.2.2.2.2.1).mono ?_
  rintro e V3 ⟨v3, rfl, h3, s3, m3⟩
  have F3 := Lib.hid (And.intro h3 (And.intro (s3.mono F2.out.2.2.2.2.2.2.2.2.size) (F2.out.2.2.2.2.2.2.2.2.trans (m3.below F2.out.2.2.2.2.2.2.2.2.size (fun k hk e => by omega)))))
  clear h3 s3 m3 F2 M1
  go_wp2_with fail
  refine (B2.out _).mono ?_
  rintro e V4 ⟨g2, v2, rfl, l4, h4, s4, b4⟩
  have F4 := Lib.hid (And.intro (F3.out.1.below b4) (And.intro (F3.out.2.1.below b4) (And.intro h4 (And.intro s4 (And.intro (Nat.ne_of_lt (Nat.lt_of_lt_of_le F3.out.1.lt l4)) (F3.out.2.2.trans (b4.mono F3.out.2.2.size)))))))
  clear l4 h4 s4 b4 F3
  go_wp2_with fail
  refine (M2.out w.heap.size _ _ _ _ (Nat.le_refl _) F4.out.2.2.2.2.1 _ F4.out.1 F4.out.2.1 F4.out.2.2.1 F4.out.2.2.2.1).mono ?_
  rintro e V5 ⟨rfl, ⟨v5, h5, s5⟩, m5⟩
  have F5 := Lib.hid (And.intro h5 (And.intro s5 (F4.out.2.2.2.2.2.trans (m5.below F4.out.2.2.2.2.2.size (fun k hk e => by omega)))))
  clear h5 s5 m5 F4 M2
  go_wp2_with fail
  refine (BC.out _).mono ?_
  rintro e V6 ⟨gc, vc, rfl, l6, h6, s6, b6⟩
  have F6 := Lib.hid (And.intro (F5.out.1.below b6) (And.intro (F5.out.2.1.below b6) (And.intro h6 (And.intro s6 (And.intro (Nat.ne_of_lt (Nat.lt_of_lt_of_le F5.out.1.lt l6)) (F5.out.2.2.trans (b6.mono F5.out.2.2.size)))))))
  clear l6 h6 s6 b6 F5
  go_wp2_with fail
  refine (AD.out w.heap.size _ _ _ _ (Nat.le_refl _) F6.out.2.2.2.2.1 _ F6.out.1 F6.out.2.1 F6.out.2.2.1 F6.out.2.2.2.1).mono ?_
  rintro e V7 ⟨rfl, ⟨v7, h7, s7⟩, m7⟩
  have F7 := Lib.hid (And.intro h7 (And.intro s7 (F6.out.2.2.2.2.2.trans (m7.below F6.out.2.2.2.2.2.size (fun k hk e => by omega)))))
  clear h7 s7 m7 F6 AD
  go_wp2_with fail
  have b0 : Below V7.heap.size V7 (V7.alloc (.cells #[.bool false, .slice none 0 0] 146)) := by go_grown
  have z0 := Bk.made V7 #[.bool false, .slice none 0 0] 146
  refine (BC.out _).mono ?_
  rintro e V8 ⟨gd, vd, rfl, l8, h8, s8, b8⟩
  have b08 := b0.trans (b8.mono b0.size)
  have F8 := Lib.hid (And.intro (F7.out.1.below b08) (And.intro (F7.out.2.1.below b08) (And.intro (z0.below b8) (And.intro h8 (And.intro s8 (And.intro (Nat.ne_of_lt (Nat.lt_of_lt_of_le z0.lt l8)) (And.intro (F7.out.2.2.trans (b08.mono F7.out.2.2.size)) (And.intro (Nat.ne_of_lt F7.out.1.lt) F7.out.2.2.size))))))))
  clear b0 z0 l8 h8 s8 b8 b08 F7 BC
  go_wp2_with fail
  refine (B2.out _).mono ?_
  rintro e V9 ⟨ge, ve, rfl, l9, h9, s9, b9⟩
  have F9 := Lib.hid (And.intro (F8.out.1.below b9) (And.intro (F8.out.2.1.below b9) (And.intro (F8.out.2.2.1.below b9) (And.intro (F8.out.2.2.2.1.below b9) (And.intro (F8.out.2.2.2.2.1.below b9) (And.intro h9 (And.intro s9 (And.intro F8.out.2.2.2.2.2.1 (And.intro (Nat.ne_of_lt (Nat.lt_of_lt_of_le F8.out.2.2.1.lt l9)) (And.intro (Nat.ne_of_lt (Nat.lt_of_lt_of_le F8.out.2.2.2.1.lt l9)) (And.intro (F8.out.2.2.2.2.2.2.1.trans (b9.mono F8.out.2.2.2.2.2.2.1.size)) F8.out.2.2.2.2.2.2.2)))))))))))
  clear l9 h9 s9 b9 F8 B2
  go_wp2_with fail
  obtain ⟨f1, f2, f3, f4, f5, f6, f7, f8, f9, f10, f11, f12, f13⟩ := F9.out
  refine (M3.out _ _ _ _ _ f10 f8 f9 _ f3 f4 f6 f5 f7).mono ?_
  rintro e V10 ⟨v10, rfl, h10, s10, m10⟩
  obtain ⟨bv, c1, rfl, h11⟩ := s10.one (by have := HC.out; omega) (by have := HC.out; omega)
  have F10 := Lib.hid (And.intro (f1.mut m10 f12) (And.intro (f2.mut f3 m10) (And.intro h10 (And.intro h11 (f11.trans (m10.below f11.size (fun k hk e => by omega)))))))
  clear h10 h11 m10 s10 F9 M3 f1 f2 f3 f4 f5 f6 f7 f8 f9 f10 f11 f12 f13
  go_wp2_with fail
  refine (FL.out _ _ _ _ _ _ _ _ _ _ F10.out.1 F10.out.2.1 F10.out.2.2.1 F10.out.2.2.2.1).mono ?_
  rintro e V11 ⟨gf, vf, rfl, h12, h13, b11⟩
  have F11 := Lib.hid (And.intro h12 (And.intro h13 (F10.out.2.2.2.2.trans (b11.mono F10.out.2.2.2.2.size))))
  clear h12 h13 b11 F10 FL
  go_wp2_with fail
  refine (IN.out _ _ _ F11.out.1 F11.out.2.1).mono ?_
  rintro e V12 ⟨rfl, b12⟩
  have F12 := Lib.hid (F11.out.2.2.trans (b12.mono F11.out.2.2.size))
  clear b12 F11 IN
  go_wp2
  go_returns
  exact ⟨rfl, F12.out⟩
end Go.Proofs.YtghfggfgndgkjaaGreatDoor
