/- QuantPlanes: the walk: whatever the arguments are, it returns true and writes nothing that was there. -/
import Derived.Test.YtolifgjkejhlhaaBits3
import Derived.OpenShut
import Derived.Test.YtolifgjkejhlhaaMinMax
import Derived.Test.YtolifgjkejhlhaaAwake21
set_option linter.unusedVariables false
set_option linter.unusedSimpArgs false
namespace Go.Proofs.Ytolifgjkejhlhaa
open Go.RowKit

open Go Go.Sort
attribute [local go_sem] opLow opUpon opLow2 opUpon2 opLow3
theorem row_same {w w' : World} {base e size n : Nat} {v : Value} {xs : List Value} (h : w.ownsRow base e size v n xs) (hb : ∀ b, v.ownBlock = some b → w'.heap[b]? = w.heap[b]?) : w'.ownsRow base e size v n xs := by
  obtain ⟨h1, h2⟩ := h
  refine ⟨h1, ?_⟩
  rcases h2 with h2 | ⟨g, cap, cur, hv, hg, hh, r⟩
  · exact .inl h2
  · exact .inr ⟨g, cap, cur, hv, hg, (hb g (by rw [hv]; rfl)).trans hh, r⟩
/-- what Put, Bytes, NewReader and Get leave -/
def aPut (base g : Nat) (l : List Int) : Array Value → Value → World → World → Prop := fun _ v w1 w2 => v = .int .i64 0 ∧ Wrote base w1 g (.slice none 0 0) l w2
def aBytes (l : List Int) (q : Nat) : Array Value → Value → World → World → Prop := fun _ v w1 w2 => CopyOf w1 l q v w2
def aNew (l : List Int) : Array Value → Value → World → World → Prop := fun _ v w1 w2 => ∃ r gb cap, v = .pointer (some ⟨r, 0, none⟩) ∧ w1.heap.size ≤ r ∧ w1.heap.size ≤ gb ∧ RdAt w1.heap.size w2 r gb cap l 0
def aGet (u : Value) : Array Value → Value → World → World → Prop := fun _ v _ _ => v = u
def tPut (base g : Nat) (l : List Int) : Posts := post1 65 (aPut base g l)
def tGet (l : List Int) (q : Nat) (u : Value) : Posts := fun f => if f = 67 then some (aBytes l q) else if f = 62 then some (aNew l) else if f = 63 then some (aGet u) else none
theorem wrote_mut {base g : Nat} {l : List Int} {w1 w2 : World} {U : Nat → Prop} (h : Wrote base w1 g (.slice none 0 0) l w2) (hU : U g) : Mut U w1 w2 := by
  obtain ⟨s', -, hm, -⟩ := h
  exact hm.mono (fun x _ hx => by rcases hx with rfl | hx; exact hU; cases hx)
/-- a Writer that was written to, in a later world of the chain -/
theorem wrote_at {base g : Nat} {l : List Int} {w1 w2 w' : World} (h : Wrote base w1 g (.slice none 0 0) l w2) (hb : ∀ b, (b = g ∨ (w1.heap.size ≤ b ∧ b < w2.heap.size)) → w'.heap[b]? = w2.heap[b]?) : ∃ s', WrAt base w' g s' l := by
  obtain ⟨s', ⟨h1, h2, h3⟩, -, ho⟩ := h
  refine ⟨s', (hb g (.inl rfl)).trans h1, row_same h2 (fun b hb' => hb b (.inr ?_)), h3⟩
  rcases ho b hb' with h | h
  · cases h
  · exact ⟨h, (h2.lt b hb').2⟩
theorem planes_facts (L R B x : Int) (hg : GV L R B) : ∃ i p i2 : Int, (0 ≤ i ∧ i < 2 ^ B.toNat ∧ i ≤ gn B) ∧ (0 ≤ i2 ∧ i2 < 2 ^ B.toNat ∧ i2 ≤ gn B) ∧ qi L R B x = i ∧ qp L R B i = p ∧ qi L R B p = i2 ∧ qp L R B i2 = p ∧ Hid (GV L R B ∧ qp L R B (qi L R B x) = p) := by
  have h1 := qi_bd L R B x hg
  have h2 := qi_bd L R B (qp L R B (qi L R B x)) hg
  refine ⟨_, _, _, ⟨h1.1, by have := h1.2; unfold gn at this; omega, h1.2⟩, ⟨h2.1, by have := h2.2; unfold gn at this; omega, h2.2⟩, rfl, rfl, rfl, near_near L R B _ hg h1.1 h1.2, Lib.hid ⟨hg, rfl⟩⟩
theorem two_nums (i j : Int) (b c : Nat) (hi : 0 ≤ i ∧ i < 2 ^ b) (hj : 0 ≤ j ∧ j < 2 ^ c) : numAt ([] ++ bitsOf i b ++ bitsOf j c) 0 b = i ∧ numAt ([] ++ bitsOf i b ++ bitsOf j c) (0 + b) c = j := by
  constructor
  · exact numAt_all [] (bitsOf j c) i b hi.1 hi.2
  · have := numAt_all ([] ++ bitsOf i b) [] j c hj.1 hj.2
    rw [List.append_nil, List.length_append, bitsOf_length] at this
    exact this

set_option maxRecDepth 100000 in
set_option maxHeartbeats 8000000 in
theorem walk_QuantPlanes (a0 a1 a2 a3 a4 a5 a6 a7 : Int) (w0 : (Lit.int .i64 a0).wf = true) (w1 : (Lit.int .i64 a1).wf = true) (w2 : (Lit.int .u64 a2).wf = true) (w3 : (Lit.int .u64 a3).wf = true) (w4 : (Lit.int .u8 a4).wf = true) (w5 : (Lit.int .u8 a5).wf = true) (w6 : (Lit.int .i64 a6).wf = true) (w7 : (Lit.int .i64 a7).wf = true) (w : World) :
    Calls Try.prog 23 #[.int .i64 a0, .int .i64 a1, .int .u64 a2, .int .u64 a3, .int .u8 a4, .int .u8 a5, .agg #[.int .i64 a6, .int .i64 a7]] w fun e w' => e = .returned (.bool true) ∧ Below w.heap.size w w' := by
  have w0 := bounds_i64 w0
  have w1 := bounds_i64 w1
  have w2 := bounds_u64 w2
  have w3 := bounds_u64 w3
  have w4 := bounds_u8 w4
  have w5 := bounds_u8 w5
  have w6 := bounds_i64 w6
  have w7 := bounds_i64 w7
  have hG1 := GV_grid a0 a2 a4 w4.1
  obtain ⟨L1, hL⟩ : ∃ L, gl a0 = L := ⟨_, rfl⟩
  obtain ⟨R1, hR⟩ : ∃ R, gl a0 + gw a2 = R := ⟨_, rfl⟩
  obtain ⟨B1, hB⟩ : ∃ B, gb a4 = B := ⟨_, rfl⟩
  rw [hL, hB] at hG1
  rw [← hL, hR, hL] at hG1
  have H1 := Lib.hid (show ((-9223372036854775808 ≤ a0 ∧ a0 ≤ 9223372036854775807) ∧ (0 ≤ a2 ∧ a2 ≤ 18446744073709551615) ∧ 0 ≤ a4 ∧ a4 ≤ 255) ∧ gl a0 = L1 ∧ gl a0 + gw a2 = R1 ∧ gb a4 = B1 from ⟨⟨w0, w2, w4⟩, hL, hR, hB⟩)
  clear hL hR hB
  have hG2 := GV_grid a1 a3 a5 w5.1
  obtain ⟨L2, hL⟩ : ∃ L, gl a1 = L := ⟨_, rfl⟩
  obtain ⟨R2, hR⟩ : ∃ R, gl a1 + gw a3 = R := ⟨_, rfl⟩
  obtain ⟨B2, hB⟩ : ∃ B, gb a5 = B := ⟨_, rfl⟩
  rw [hL, hB] at hG2
  rw [← hL, hR, hL] at hG2
  have H2 := Lib.hid (show ((-9223372036854775808 ≤ a1 ∧ a1 ≤ 9223372036854775807) ∧ (0 ≤ a3 ∧ a3 ≤ 18446744073709551615) ∧ 0 ≤ a5 ∧ a5 ≤ 255) ∧ gl a1 = L2 ∧ gl a1 + gw a3 = R2 ∧ gb a5 = B2 from ⟨⟨w1, w3, w5⟩, hL, hR, hB⟩)
  clear hL hR hB
  obtain ⟨x, hx⟩ : ∃ x, a6 = x := ⟨_, rfl⟩
  obtain ⟨y, hy⟩ : ∃ y, a7 = y := ⟨_, rfl⟩
  subst hx hy
  obtain ⟨i, p, i2, hi, hi2, e1, e2, e3, e4, N1⟩ := planes_facts L1 R1 B1 a6 hG1
  obtain ⟨j, q, j2, hj, hj2, f1, f2, f3, f4, N2⟩ := planes_facts L2 R2 B2 a7 hG2
  obtain ⟨b0, b1⟩ := hG1.2.2.2
  obtain ⟨c0, c1⟩ := hG2.2.2.2
  have n1 := two_nums i j B1.toNat B2.toNat ⟨hi.1, hi.2.1⟩ ⟨hj.1, hj.2.1⟩
  have n2 := two_nums i2 j2 B1.toNat B2.toNat ⟨hi2.1, hi2.2.1⟩ ⟨hj2.1, hj2.2.1⟩
  obtain ⟨l1, hl1⟩ : ∃ l, [] ++ bitsOf i B1.toNat ++ bitsOf j B2.toNat = l := ⟨_, rfl⟩
  obtain ⟨l2, hl2⟩ : ∃ l, [] ++ bitsOf i2 B1.toNat ++ bitsOf j2 B2.toNat = l := ⟨_, rfl⟩
  have k1 : l1.length = B1.toNat + B2.toNat := by rw [← hl1, List.length_append, List.length_append, bitsOf_length, bitsOf_length]; simp
  have k2 : l2.length = B1.toNat + B2.toNat := by rw [← hl2, List.length_append, List.length_append, bitsOf_length, bitsOf_length]; simp
  rw [hl1] at n1
  rw [hl2] at n2
  have HG := Lib.hid (show GV L1 R1 B1 ∧ GV L2 R2 B2 from ⟨hG1, hG2⟩)
  have HE := Lib.hid (show (qi L1 R1 B1 a6 = i ∧ qp L1 R1 B1 i = p ∧ qi L1 R1 B1 p = i2 ∧ qp L1 R1 B1 i2 = p) ∧ (qi L2 R2 B2 a7 = j ∧ qp L2 R2 B2 j = q ∧ qi L2 R2 B2 q = j2 ∧ qp L2 R2 B2 j2 = q) from ⟨⟨e1, e2, e3, e4⟩, f1, f2, f3, f4⟩)
  have HN := Lib.hid (show (numAt l1 0 B1.toNat = i ∧ i ≤ gn B1) ∧ (numAt l1 (0 + B1.toNat) B2.toNat = j ∧ j ≤ gn B2) ∧ (numAt l2 0 B1.toNat = i2 ∧ i2 ≤ gn B1) ∧ (numAt l2 (0 + B1.toNat) B2.toNat = j2 ∧ j2 ≤ gn B2) from ⟨⟨n1.1, hi.2.2⟩, ⟨n1.2, hj.2.2⟩, ⟨n2.1, hi2.2.2⟩, ⟨n2.2, hj2.2.2⟩⟩)
  have HL := Lib.hid (show ([] ++ bitsOf i B1.toNat ++ bitsOf j B2.toNat = l1 ∧ [] ++ bitsOf i2 B1.toNat ++ bitsOf j2 B2.toNat = l2) ∧ l1.length = B1.toNat + B2.toNat ∧ l2.length = B1.toNat + B2.toNat ∧ (1 ≤ B1 ∧ B1 ≤ 32) ∧ 1 ≤ B2 ∧ B2 ≤ 32 from ⟨⟨hl1, hl2⟩, k1, k2, ⟨b0, b1⟩, c0, c1⟩)
  obtain ⟨m, hm⟩ : ∃ m, B1.toNat + B2.toNat = m := ⟨_, rfl⟩
  have hm2 : (m : Int) = B1 + B2 := by omega
  obtain ⟨Q, hQ⟩ : ∃ Q, (m + 7) / 8 = Q := ⟨_, rfl⟩
  have HM := Lib.hid (show B1.toNat + B2.toNat = m ∧ (m : Int) = B1 + B2 ∧ (m + 7) / 8 = Q ∧ 0 < m ∧ m ≤ 64 ∧ 0 < Q ∧ Q ≤ 9 from ⟨hm, hm2, hQ, by omega, by omega, by omega, by omega⟩)
  have wr1 : IntKind.i64.wrap (B1 + B2) = B1 + B2 := by rw [IntKind.wrap_i64]; omega
  clear hG1 hG2 hi hi2 hj hj2 e1 e2 e3 e4 f1 f2 f3 f4 n1 n2 hl1 hl2 k1 k2 hm hQ w0 w1 w2 w3 w4 w5 w6 w7
  go_enter Try.func23, Try.ntmps23
  go_wp2_with fail
  with_reducible refine (grid_val _ _ _ _ _ _ H1.out _).mono ?_
  rintro e W1 ⟨rfl, hb⟩
  have o_v : w.heap.size ≤ w.heap.size := Nat.le_add_right _ 0
  have B'_v : Bk W1 (w.heap.size) #[.int .i64 a6, .int .i64 a7] 55 := Bk.below (by (repeat (first | with_reducible assumption | ((with_reducible refine Bk.at_ ?_); first | rfl | (simp; done)) | with_reducible apply Bk.alloc))) hb
  obtain ⟨hB', hS'⟩ := below_c (w := w) hb (by (first | (go_grown; done) | (repeat (first | assumption | (refine Below.setCell ?_ (by first | assumption | (simp; omega) | omega) _) | (refine Below.alloc ?_ (by assumption) _)))))
  clear hb
  have B_v := B'_v
  have hB := hB'; have hS := hS'; clear hB' hS' B'_v
  go_wp2_with fail
  with_reducible refine (grid_val _ _ _ _ _ _ H2.out _).mono ?_
  rintro e W2 ⟨rfl, hb⟩
  have B'_v : Bk W2 (w.heap.size) #[.int .i64 a6, .int .i64 a7] 55 := Bk.below (by (repeat (first | with_reducible assumption | ((with_reducible refine Bk.at_ ?_); first | rfl | (simp; done)) | with_reducible apply Bk.alloc))) hb
  obtain ⟨hB', hS'⟩ := below_c (w := w) hb (by (first | (go_grown; done) | (repeat (first | assumption | (refine Below.setCell ?_ (by first | assumption | (simp; omega) | omega) _) | (refine Below.alloc ?_ (by assumption) _)))))
  clear hb hB hS B_v
  have B_v := B'_v
  have hB := hB'; have hS := hS'; clear hB' hS' B'_v
  go_wp2_with fail
  have o_g : w.heap.size ≤ W2.heap.size + 1 := Nat.le_trans hS (Nat.le_add_right _ 1)
  have n_v_g : w.heap.size ≠ W2.heap.size + 1 := B_v.apart 1
  refine wp_name (fun W => Below w.heap.size w W ∧ Bk W (w.heap.size) #[.int .i64 a6, .int .i64 a7] 55 ∧ Bk W (W2.heap.size) #[.int .i64 L1, .int .i64 R1, .int .i64 B1, .int .i64 L2, .int .i64 R2, .int .i64 B2] 86 ∧ Bk W (W2.heap.size + 1) #[.slice none 0 0, .int .i64 0] 81) ⟨by (first | (go_grown; done) | (repeat (first | assumption | (refine Below.setCell ?_ (by first | assumption | (simp; omega) | omega) _) | (refine Below.alloc ?_ (by assumption) _)))), by (repeat (first | with_reducible assumption | ((with_reducible refine Bk.at_ ?_); first | rfl | (simp; done)) | with_reducible apply Bk.alloc)), by (repeat (first | with_reducible assumption | ((with_reducible refine Bk.at_ ?_); first | rfl | (simp; done)) | with_reducible apply Bk.alloc)), by (repeat (first | with_reducible assumption | ((with_reducible refine Bk.at_ ?_); first | rfl | (simp; done)) | with_reducible apply Bk.alloc))⟩ ?_
  clear hB hS B_v
  rintro W3 ⟨hB, B_v, B_p, B_g⟩
  have hS := hB.size
  have k_p_0 := fun p : Mutd (fun b => b = W2.heap.size + 1) W3 => cell_mutd (B_p.cell (v := .int .i64 L1) 0 rfl) (fun e => absurd (show W2.heap.size = W2.heap.size + 1 from e) (by simp)) p
  have k_p_1 := fun p : Mutd (fun b => b = W2.heap.size + 1) W3 => cell_mutd (B_p.cell (v := .int .i64 R1) 1 rfl) (fun e => absurd (show W2.heap.size = W2.heap.size + 1 from e) (by simp)) p
  have k_p_2 := fun p : Mutd (fun b => b = W2.heap.size + 1) W3 => cell_mutd (B_p.cell (v := .int .i64 B1) 2 rfl) (fun e => absurd (show W2.heap.size = W2.heap.size + 1 from e) (by simp)) p
  have k_p_3 := fun p : Mutd (fun b => b = W2.heap.size + 1) W3 => cell_mutd (B_p.cell (v := .int .i64 L2) 3 rfl) (fun e => absurd (show W2.heap.size = W2.heap.size + 1 from e) (by simp)) p
  have k_p_4 := fun p : Mutd (fun b => b = W2.heap.size + 1) W3 => cell_mutd (B_p.cell (v := .int .i64 R2) 4 rfl) (fun e => absurd (show W2.heap.size = W2.heap.size + 1 from e) (by simp)) p
  have k_p_5 := fun p : Mutd (fun b => b = W2.heap.size + 1) W3 => cell_mutd (B_p.cell (v := .int .i64 B2) 5 rfl) (fun e => absurd (show W2.heap.size = W2.heap.size + 1 from e) (by simp)) p
  have k_v_0 := fun p : Mutd (fun b => b = W2.heap.size + 1) W3 => cell_mutd (B_v.cell (v := .int .i64 a6) 0 rfl) n_v_g p
  have k_v_1 := fun p : Mutd (fun b => b = W2.heap.size + 1) W3 => cell_mutd (B_v.cell (v := .int .i64 a7) 1 rfl) n_v_g p
  have hbase : ∀ p : Mutd (fun b => b = W2.heap.size + 1) W3, w.heap.size ≤ p.w.heap.size := fun p => Nat.le_trans hS p.h.size
  refine wp_region_low3 (tPut w.heap.size (W2.heap.size + 1) l1) (fun b => b = W2.heap.size + 1) [2, 3, 4, 5] noSto 14 (by kernel_rfl) (fun b hb => by rw [hb]; exact B_g.lt) noSto_inj (by kernel_rfl) ?_
  simp only [List.take, List.drop]
  iterate 2 (refine low3_step noSto_no (fun K hK => ?_); go_simp; first | (refine hK _ ?_; clear hK K) | (apply Exists.intro; refine ⟨fun p => ?_, hK _ ?_⟩; clear hK K))
  refine low3_call 65 #[PL L1 R1 B1 L2 R2 B2, .pointer (some ⟨W2.heap.size + 1, 0, none⟩), .agg #[.int .i64 a6, .int .i64 a7]] (aPut w.heap.size (W2.heap.size + 1) l1) noSto_no (by decide) (by rfl) (fun w => by go_simp) (post1_same _ _) (fun V hV => ?_) ?_
  · have hB1 : Bk V (W2.heap.size + 1) #[.slice none 0 0, .int .i64 0] 81 := ((hV.2.2 (by decide)).1 _ rfl).trans B_g
    refine (pput_any w.heap.size (W2.heap.size + 1) (.slice none 0 0) [] L1 R1 B1 L2 R2 B2 a6 a7 V ⟨hB1, World.ownsRow_nil _ _ _ _, isBits_nil⟩ HG.out.1 HG.out.2 (by decide) (hbase ⟨V, hV.1⟩)).mono ?_
    rintro e W' ⟨rfl, hw⟩
    rw [HE.out.1.1, HE.out.2.1, HL.out.1.1] at hw
    exact ⟨_, rfl, ⟨rfl, hw⟩, wrote_mut hw (.inl rfl)⟩
  rintro v V1 V2 hV1 ⟨rfl, hw⟩ hmut
  iterate 2 (refine low3_step noSto_no (fun K hK => ?_); go_simp; first | (refine hK _ ?_; clear hK K) | (apply Exists.intro; refine ⟨fun p => ?_, hK _ ?_⟩; clear hK K))
  refine low3_reads 66 #[.pointer (some ⟨W2.heap.size + 1, 0, none⟩)] (.int .i64 m) noSto_no (by rfl) (fun w => by go_simp) (post1_other _ (by decide)) (by kernel_rfl) (fun V hV => ?_) ?_
  · obtain ⟨s', hs'⟩ := wrote_at (w' := V) hw (fun b hb => (hV.2.2 (by decide)).1 b (by rcases hb with h | h; exact .inl h; exact .inr (.inr h)))
    refine (len_any _ _ s' _ V hs').mono ?_
    rintro e W' ⟨rfl, hb⟩
    exact ⟨by rw [HL.out.2.1, HM.out.1], hb⟩
  iterate 8 (refine low3_step noSto_no (fun K hK => ?_); go_simp; first | (refine hK _ ?_; clear hK K) | (apply Exists.intro; refine ⟨fun p => ?_, hK _ ?_⟩; clear hK K))
  refine low3_nil ?_
  intro W4 hC
  clear k_p_0 k_p_1 k_p_2 k_p_3 k_p_4 k_p_5 k_v_0 k_v_1 hbase
  obtain ⟨s1, hs1⟩ := wrote_at (w' := W4) hw (fun b hb => hC.phi b (by rcases hb with h | h; exact .inl h; exact .inr (.inr h)))
  have B_v' := B_v.mut hC.fr (fun e => n_v_g e)
  have B_p' := B_p.mut hC.fr (fun e => absurd (show W2.heap.size = W2.heap.size + 1 from e) (by simp))
  have hB' := hB.trans (hC.fr.below hS (fun b hb e => by rw [e] at hb; exact absurd o_g (Nat.not_le_of_lt hb)))
  clear hC hV1 hw hmut V1 V2 hB hS B_v B_p B_g
  have B_v := B_v'; have B_p := B_p'; have hB := hB'; have hS := hB.size; clear B_v' B_p' hB'
  have hm3 : ((m : Int) == B1 + B2) = true := by simp; exact hm2
  go_wp2_with fail
  have k_p_0 := fun p : Mutd (fun _ : Nat => False) W4 => cell_mutd (B_p.cell (v := .int .i64 L1) 0 rfl) (fun e => e) p
  have k_p_1 := fun p : Mutd (fun _ : Nat => False) W4 => cell_mutd (B_p.cell (v := .int .i64 R1) 1 rfl) (fun e => e) p
  have k_p_2 := fun p : Mutd (fun _ : Nat => False) W4 => cell_mutd (B_p.cell (v := .int .i64 B1) 2 rfl) (fun e => e) p
  have k_p_3 := fun p : Mutd (fun _ : Nat => False) W4 => cell_mutd (B_p.cell (v := .int .i64 L2) 3 rfl) (fun e => e) p
  have k_p_4 := fun p : Mutd (fun _ : Nat => False) W4 => cell_mutd (B_p.cell (v := .int .i64 R2) 4 rfl) (fun e => e) p
  have k_p_5 := fun p : Mutd (fun _ : Nat => False) W4 => cell_mutd (B_p.cell (v := .int .i64 B2) 5 rfl) (fun e => e) p
  have hbase : ∀ p : Mutd (fun _ : Nat => False) W4, Below W4.heap.size W4 p.w := fun p => p.h.below (Nat.le_refl _) (fun _ _ h => h)
  refine wp_region_low3 (tGet l1 Q (.tuple #[.agg #[.int .i64 p, .int .i64 q], .int .i64 0])) (fun _ : Nat => False) [1, 2, 3] (sto1 7 8) 9 (by kernel_rfl) (fun b hb => hb.elim) (sto1_inj 7 8) (by kernel_rfl) ?_
  simp only [List.take, List.drop]
  iterate 1 (refine low3_step (sto1_no (by decide)) (fun K hK => ?_); go_simp; first | (refine hK _ ?_; clear hK K) | (apply Exists.intro; refine ⟨fun p => ?_, hK _ ?_⟩; clear hK K))
  refine low3_call 67 #[.pointer (some ⟨W2.heap.size + 1, 0, none⟩)] (aBytes l1 Q) (sto1_no (by decide)) (by decide) (by rfl) (fun w => by go_simp) (if_pos rfl) (fun V hV => ?_) ?_
  · refine (bytes_any w.heap.size _ s1 l1 V (hs1.below (hbase ⟨V, hV.1⟩)) (by rw [HL.out.2.1, HM.out.1]; exact HM.out.2.2.2.1) (by rw [HL.out.2.1, HM.out.1]; have := HM.out; omega)).mono ?_
    rw [HL.out.2.1, HM.out.1, HM.out.2.2.1]
    rintro e W' ⟨v, rfl, hc⟩
    exact ⟨v, rfl, hc, Mut.of_below (by obtain ⟨_, _, _, _, h⟩ := hc; exact h)⟩
  rintro v V1 V2 hV1 ⟨gq, cq, rfl, hrow, hbV⟩ hm1
  refine low3_call 62 #[.slice (some ⟨gq, 0, none⟩) Q cq] (aNew l1) (sto1_no (by decide)) (by decide) (by rfl) (fun w => by go_simp) (by unfold tGet; rw [if_neg (by decide), if_pos rfl]) (fun V hV => ?_) ?_
  · refine (reader_any V1.heap.size Q _ l1 V (row_same hrow (fun b hb => (hV.2.2 (by decide)).1 b (.inr (.inr ⟨(hrow.lt b hb).1, (hrow.lt b hb).2⟩)))) hs1.2.2 (by rw [HL.out.2.1, HM.out.1]; exact HM.out.2.2.1) HM.out.2.2.2.2.2.1 (by have := HM.out; omega)).mono ?_
    rintro e W' ⟨r, gb, cap, rfl, h1, h2, h3, h4⟩
    exact ⟨_, rfl, ⟨r, gb, cap, rfl, h1, h2, h3⟩, Mut.of_below h4⟩
  rintro v V3 V4 hV3 ⟨r, gb, cap, rfl, hr1, hr2, hrd⟩ hm2
  refine low3_call 63 #[PL L1 R1 B1 L2 R2 B2, .pointer (some ⟨r, 0, none⟩)] (aGet (.tuple #[.agg #[.int .i64 p, .int .i64 q], .int .i64 0])) (sto1_no (by decide)) (by decide) (by rfl) (fun w => by go_simp) (by unfold tGet; rw [if_neg (by decide), if_neg (by decide), if_pos rfl]) (fun V hV => ?_) ?_
  · have hrd' : RdAt V3.heap.size V r gb cap l1 0 := ⟨((hV.2.2 (by decide)).1 r (.inr (.inr ⟨hr1, hrd.lt.1⟩))).trans hrd.1, row_same hrd.2.1 (fun b hb => (hV.2.2 (by decide)).1 b (.inr (.inr (by obtain rfl : gb = b := Option.some.inj hb; exact ⟨hr2, hrd.lt.2⟩)))), hrd.2.2⟩
    refine (pget_any V3.heap.size r gb cap l1 0 L1 R1 B1 L2 R2 B2 i j V hrd' HG.out.1 HG.out.2 (by rw [HL.out.2.1]; omega) (by rw [HL.out.2.1, HM.out.1]; have := HM.out; omega) HN.out.1 HN.out.2.1).mono ?_
    rw [HE.out.1.2.1, HE.out.2.2.1]
    rintro e W' ⟨rfl, hr⟩
    exact ⟨_, rfl, rfl, hr.2.mono (fun x _ hx => .inr (.inr (by obtain rfl : x = r := hx; exact ⟨hr1, hrd.lt.1⟩)))⟩
  rintro v V5 V6 hV5 rfl hm3
  iterate 3 (refine low3_step (sto1_no (by decide)) (fun K hK => ?_); go_simp; first | (refine hK _ ?_; clear hK K) | (apply Exists.intro; refine ⟨fun p => ?_, hK _ ?_⟩; clear hK K))
  refine low3_new (.cells #[.int .i64 0, .int .i64 0] 55) (sto1_no (by decide)) (by rfl) (fun w => by go_simp) ?_
  intro g_q
  refine low3_sto 7 g_q #[.int .i64 0, .int .i64 0] #[.int .i64 p, .int .i64 q] 55 rfl (by rfl) ⟨⟨7, .data⟩, by simp, rfl, rfl⟩ rfl (fun w B => by
    have lt := B.lt
    have c_0 := B.cell (v := .int .i64 0) 0 rfl
    have c_1 := B.cell (v := .int .i64 0) 1 rfl
    have f_0 := B.free 0
    have f_1 := B.free 1
    go_simp
    show (w.setCell ⟨g_q, 0, none⟩ (.int .i64 p)).setCell ⟨g_q, 1, none⟩ (.int .i64 q) = putObj w g_q (.cells #[.int .i64 p, .int .i64 q] 55)
    rw [setCell_put B, setCell_put (putObj_heap B), putObj_twice]; rfl) ?_
  refine low3_nil ?_
  intro W5 hC
  have z_q := (hC.made 7 g_q _ rfl).1
  have B_q : Bk W5 g_q #[.int .i64 p, .int .i64 q] 55 := (hC.made 7 g_q _ rfl).2
  have n_v_q : w.heap.size ≠ g_q := Nat.ne_of_lt (Nat.lt_of_lt_of_le B_v.lt z_q)
  replace B_v := B_v.mut hC.fr (fun e => e)
  have n_p_q : W2.heap.size ≠ g_q := Nat.ne_of_lt (Nat.lt_of_lt_of_le B_p.lt z_q)
  replace B_p := B_p.mut hC.fr (fun e => e)
  have hB' := hB.trans (hC.fr.below hS (fun _ _ e => e))
  clear hB hS hm1 hm2 hm3 hV1 hV3 hV5 hrow hbV hrd hr1 hr2 hC hbase hs1 k_p_0 k_p_1 k_p_2 k_p_3 k_p_4 k_p_5
  have hB := hB'; have hS := hB.size; clear hB'
  have c_v_0 := B_v.cell (v := .int .i64 a6) 0 rfl
  have c_v_1 := B_v.cell (v := .int .i64 a7) 1 rfl
  have lt_v := B_v.lt
  have c_p_0 := B_p.cell (v := .int .i64 L1) 0 rfl
  have c_p_1 := B_p.cell (v := .int .i64 R1) 1 rfl
  have c_p_2 := B_p.cell (v := .int .i64 B1) 2 rfl
  have c_p_3 := B_p.cell (v := .int .i64 L2) 3 rfl
  have c_p_4 := B_p.cell (v := .int .i64 R2) 4 rfl
  have c_p_5 := B_p.cell (v := .int .i64 B2) 5 rfl
  have lt_p := B_p.lt
  have c_q_0 := B_q.cell (v := .int .i64 p) 0 rfl
  have c_q_1 := B_q.cell (v := .int .i64 q) 1 rfl
  have lt_q := B_q.lt
  go_wp2_with fail
  with_reducible refine (gnear_is L1 R1 B1 a6 p N1.out _).mono ?_
  rintro e W6 ⟨rfl, hb⟩
  clear c_v_0 c_v_1 lt_v c_p_0 c_p_1 c_p_2 c_p_3 c_p_4 c_p_5 lt_p c_q_0 c_q_1 lt_q
  have B'_v : Bk W6 (w.heap.size) #[.int .i64 a6, .int .i64 a7] 55 := Bk.below (by (repeat (first | with_reducible assumption | ((with_reducible refine Bk.at_ ?_); first | rfl | (simp; done)) | with_reducible apply Bk.alloc))) hb
  have B'_p : Bk W6 (W2.heap.size) #[.int .i64 L1, .int .i64 R1, .int .i64 B1, .int .i64 L2, .int .i64 R2, .int .i64 B2] 86 := Bk.below (by (repeat (first | with_reducible assumption | ((with_reducible refine Bk.at_ ?_); first | rfl | (simp; done)) | with_reducible apply Bk.alloc))) hb
  have B'_q : Bk W6 (g_q) #[.int .i64 p, .int .i64 q] 55 := Bk.below (by (repeat (first | with_reducible assumption | ((with_reducible refine Bk.at_ ?_); first | rfl | (simp; done)) | with_reducible apply Bk.alloc))) hb
  obtain ⟨hB', hS'⟩ := below_c (w := w) hb (by (first | (go_grown; done) | (repeat (first | assumption | (refine Below.setCell ?_ (by first | assumption | (simp; omega) | omega) _) | (refine Below.alloc ?_ (by assumption) _)))))
  clear hb hB hS B_v B_p B_q
  have B_v := B'_v
  have B_p := B'_p
  have B_q := B'_q
  have hB := hB'; have hS := hS'; clear hB' hS' B'_v B'_p B'_q
  have c_v_0 := B_v.cell (v := .int .i64 a6) 0 rfl
  have c_v_1 := B_v.cell (v := .int .i64 a7) 1 rfl
  have lt_v := B_v.lt
  have c_p_0 := B_p.cell (v := .int .i64 L1) 0 rfl
  have c_p_1 := B_p.cell (v := .int .i64 R1) 1 rfl
  have c_p_2 := B_p.cell (v := .int .i64 B1) 2 rfl
  have c_p_3 := B_p.cell (v := .int .i64 L2) 3 rfl
  have c_p_4 := B_p.cell (v := .int .i64 R2) 4 rfl
  have c_p_5 := B_p.cell (v := .int .i64 B2) 5 rfl
  have lt_p := B_p.lt
  have c_q_0 := B_q.cell (v := .int .i64 p) 0 rfl
  have c_q_1 := B_q.cell (v := .int .i64 q) 1 rfl
  have lt_q := B_q.lt
  go_wp2_with fail
  with_reducible refine (gnear_is L2 R2 B2 a7 q N2.out _).mono ?_
  rintro e W7 ⟨rfl, hb⟩
  clear c_v_0 c_v_1 lt_v c_p_0 c_p_1 c_p_2 c_p_3 c_p_4 c_p_5 lt_p c_q_0 c_q_1 lt_q
  have B'_v : Bk W7 (w.heap.size) #[.int .i64 a6, .int .i64 a7] 55 := Bk.below (by (repeat (first | with_reducible assumption | ((with_reducible refine Bk.at_ ?_); first | rfl | (simp; done)) | with_reducible apply Bk.alloc))) hb
  have B'_p : Bk W7 (W2.heap.size) #[.int .i64 L1, .int .i64 R1, .int .i64 B1, .int .i64 L2, .int .i64 R2, .int .i64 B2] 86 := Bk.below (by (repeat (first | with_reducible assumption | ((with_reducible refine Bk.at_ ?_); first | rfl | (simp; done)) | with_reducible apply Bk.alloc))) hb
  have B'_q : Bk W7 (g_q) #[.int .i64 p, .int .i64 q] 55 := Bk.below (by (repeat (first | with_reducible assumption | ((with_reducible refine Bk.at_ ?_); first | rfl | (simp; done)) | with_reducible apply Bk.alloc))) hb
  obtain ⟨hB', hS'⟩ := below_c (w := w) hb (by (first | (go_grown; done) | (repeat (first | assumption | (refine Below.setCell ?_ (by first | assumption | (simp; omega) | omega) _) | (refine Below.alloc ?_ (by assumption) _)))))
  clear hb hB hS B_v B_p B_q
  have B_v := B'_v
  have B_p := B'_p
  have B_q := B'_q
  have hB := hB'; have hS := hS'; clear hB' hS' B'_v B'_p B'_q
  have c_v_0 := B_v.cell (v := .int .i64 a6) 0 rfl
  have c_v_1 := B_v.cell (v := .int .i64 a7) 1 rfl
  have lt_v := B_v.lt
  have c_p_0 := B_p.cell (v := .int .i64 L1) 0 rfl
  have c_p_1 := B_p.cell (v := .int .i64 R1) 1 rfl
  have c_p_2 := B_p.cell (v := .int .i64 B1) 2 rfl
  have c_p_3 := B_p.cell (v := .int .i64 L2) 3 rfl
  have c_p_4 := B_p.cell (v := .int .i64 R2) 4 rfl
  have c_p_5 := B_p.cell (v := .int .i64 B2) 5 rfl
  have lt_p := B_p.lt
  have c_q_0 := B_q.cell (v := .int .i64 p) 0 rfl
  have c_q_1 := B_q.cell (v := .int .i64 q) 1 rfl
  have lt_q := B_q.lt
  go_wp2_with fail
  have hb0 := (Below.refl W7.heap.size W7).alloc (Nat.le_refl _) (.cells #[.slice none 0 0, .int .i64 0] 81)
  have hW0 : WrAt w.heap.size (W7.alloc (.cells #[.slice none 0 0, .int .i64 0] 81)) W7.heap.size (.slice none 0 0) [] := ⟨Bk.made _ _ _, World.ownsRow_nil _ _ _ _, isBits_nil⟩
  with_reducible refine (pput_any w.heap.size W7.heap.size (.slice none 0 0) [] L1 R1 B1 L2 R2 B2 p q _ hW0 HG.out.1 HG.out.2 (by decide) (by simp; omega)).mono ?_
  clear hW0
  rw [HE.out.1.2.2.1, HE.out.2.2.2.1, HL.out.1.2]
  rintro e W8 ⟨rfl, hw⟩
  clear c_v_0 c_v_1 lt_v c_p_0 c_p_1 c_p_2 c_p_3 c_p_4 c_p_5 lt_p c_q_0 c_q_1 lt_q
  obtain ⟨s1, hs1⟩ := wrote_at (w' := W8) hw (fun b _ => rfl)
  have hm8 := wrote_mut (U := fun b => b = W7.heap.size) hw rfl
  have B_v' := (B_v.alloc _).mut hm8 (fun e => absurd B_v.lt (Nat.not_lt_of_le (Nat.le_of_eq (Eq.symm e))))
  have B_p' := (B_p.alloc _).mut hm8 (fun e => absurd B_p.lt (Nat.not_lt_of_le (Nat.le_of_eq (Eq.symm e))))
  have B_q' := (B_q.alloc _).mut hm8 (fun e => absurd B_q.lt (Nat.not_lt_of_le (Nat.le_of_eq (Eq.symm e))))
  have hB' := hB.trans ((hb0.trans (hm8.below (by simp) (fun b hb e => absurd hb (by rw [e]; exact Nat.lt_irrefl _)))).mono hS)
  clear hw hm8 hb0 hB hS B_v B_p B_q
  have B_v := B_v'; have B_p := B_p'; have B_q := B_q'; have hB := hB'; have hS := hB.size; clear B_v' B_p' B_q' hB'
  go_wp2_with fail
  have k_p_0 := fun p : Mutd (fun _ : Nat => False) W8 => cell_mutd (B_p.cell (v := .int .i64 L1) 0 rfl) (fun e => e) p
  have k_p_1 := fun p : Mutd (fun _ : Nat => False) W8 => cell_mutd (B_p.cell (v := .int .i64 R1) 1 rfl) (fun e => e) p
  have k_p_2 := fun p : Mutd (fun _ : Nat => False) W8 => cell_mutd (B_p.cell (v := .int .i64 B1) 2 rfl) (fun e => e) p
  have k_p_3 := fun p : Mutd (fun _ : Nat => False) W8 => cell_mutd (B_p.cell (v := .int .i64 L2) 3 rfl) (fun e => e) p
  have k_p_4 := fun p : Mutd (fun _ : Nat => False) W8 => cell_mutd (B_p.cell (v := .int .i64 R2) 4 rfl) (fun e => e) p
  have k_p_5 := fun p : Mutd (fun _ : Nat => False) W8 => cell_mutd (B_p.cell (v := .int .i64 B2) 5 rfl) (fun e => e) p
  have hbase : ∀ p : Mutd (fun _ : Nat => False) W8, Below W8.heap.size W8 p.w := fun p => p.h.below (Nat.le_refl _) (fun _ _ h => h)
  refine wp_region_low3 (tGet l2 Q (.tuple #[.agg #[.int .i64 p, .int .i64 q], .int .i64 0])) (fun _ : Nat => False) [1, 2, 3] (sto1 7 8) 9 (by kernel_rfl) (fun b hb => hb.elim) (sto1_inj 7 8) (by kernel_rfl) ?_
  simp only [List.take, List.drop]
  iterate 1 (refine low3_step (sto1_no (by decide)) (fun K hK => ?_); go_simp; first | (refine hK _ ?_; clear hK K) | (apply Exists.intro; refine ⟨fun p => ?_, hK _ ?_⟩; clear hK K))
  refine low3_call 67 #[.pointer (some ⟨W7.heap.size, 0, none⟩)] (aBytes l2 Q) (sto1_no (by decide)) (by decide) (by rfl) (fun w => by go_simp) (if_pos rfl) (fun V hV => ?_) ?_
  · refine (bytes_any w.heap.size _ s1 l2 V (hs1.below (hbase ⟨V, hV.1⟩)) (by rw [HL.out.2.2.1, HM.out.1]; exact HM.out.2.2.2.1) (by rw [HL.out.2.2.1, HM.out.1]; have := HM.out; omega)).mono ?_
    rw [HL.out.2.2.1, HM.out.1, HM.out.2.2.1]
    rintro e W' ⟨v, rfl, hc⟩
    exact ⟨v, rfl, hc, Mut.of_below (by obtain ⟨_, _, _, _, h⟩ := hc; exact h)⟩
  rintro v V1 V2 hV1 ⟨gq, cq, rfl, hrow, hbV⟩ hm1
  refine low3_call 62 #[.slice (some ⟨gq, 0, none⟩) Q cq] (aNew l2) (sto1_no (by decide)) (by decide) (by rfl) (fun w => by go_simp) (by unfold tGet; rw [if_neg (by decide), if_pos rfl]) (fun V hV => ?_) ?_
  · refine (reader_any V1.heap.size Q _ l2 V (row_same hrow (fun b hb => (hV.2.2 (by decide)).1 b (.inr (.inr ⟨(hrow.lt b hb).1, (hrow.lt b hb).2⟩)))) hs1.2.2 (by rw [HL.out.2.2.1, HM.out.1]; exact HM.out.2.2.1) HM.out.2.2.2.2.2.1 (by have := HM.out; omega)).mono ?_
    rintro e W' ⟨r, gb, cap, rfl, h1, h2, h3, h4⟩
    exact ⟨_, rfl, ⟨r, gb, cap, rfl, h1, h2, h3⟩, Mut.of_below h4⟩
  rintro v V3 V4 hV3 ⟨r, gb, cap, rfl, hr1, hr2, hrd⟩ hm2
  refine low3_call 63 #[PL L1 R1 B1 L2 R2 B2, .pointer (some ⟨r, 0, none⟩)] (aGet (.tuple #[.agg #[.int .i64 p, .int .i64 q], .int .i64 0])) (sto1_no (by decide)) (by decide) (by rfl) (fun w => by go_simp) (by unfold tGet; rw [if_neg (by decide), if_neg (by decide), if_pos rfl]) (fun V hV => ?_) ?_
  · have hrd' : RdAt V3.heap.size V r gb cap l2 0 := ⟨((hV.2.2 (by decide)).1 r (.inr (.inr ⟨hr1, hrd.lt.1⟩))).trans hrd.1, row_same hrd.2.1 (fun b hb => (hV.2.2 (by decide)).1 b (.inr (.inr (by obtain rfl : gb = b := Option.some.inj hb; exact ⟨hr2, hrd.lt.2⟩)))), hrd.2.2⟩
    refine (pget_any V3.heap.size r gb cap l2 0 L1 R1 B1 L2 R2 B2 i2 j2 V hrd' HG.out.1 HG.out.2 (by rw [HL.out.2.2.1]; omega) (by rw [HL.out.2.2.1, HM.out.1]; have := HM.out; omega) HN.out.2.2.1 HN.out.2.2.2).mono ?_
    rw [HE.out.1.2.2.2, HE.out.2.2.2.2]
    rintro e W' ⟨rfl, hr⟩
    exact ⟨_, rfl, rfl, hr.2.mono (fun x _ hx => .inr (.inr (by obtain rfl : x = r := hx; exact ⟨hr1, hrd.lt.1⟩)))⟩
  rintro v V5 V6 hV5 rfl hm3
  iterate 3 (refine low3_step (sto1_no (by decide)) (fun K hK => ?_); go_simp; first | (refine hK _ ?_; clear hK K) | (apply Exists.intro; refine ⟨fun p => ?_, hK _ ?_⟩; clear hK K))
  refine low3_new (.cells #[.int .i64 0, .int .i64 0] 55) (sto1_no (by decide)) (by rfl) (fun w => by go_simp) ?_
  intro g_r
  refine low3_sto 7 g_r #[.int .i64 0, .int .i64 0] #[.int .i64 p, .int .i64 q] 55 rfl (by rfl) ⟨⟨7, .data⟩, by simp, rfl, rfl⟩ rfl (fun w B => by
    have lt := B.lt
    have c_0 := B.cell (v := .int .i64 0) 0 rfl
    have c_1 := B.cell (v := .int .i64 0) 1 rfl
    have f_0 := B.free 0
    have f_1 := B.free 1
    go_simp
    show (w.setCell ⟨g_r, 0, none⟩ (.int .i64 p)).setCell ⟨g_r, 1, none⟩ (.int .i64 q) = putObj w g_r (.cells #[.int .i64 p, .int .i64 q] 55)
    rw [setCell_put B, setCell_put (putObj_heap B), putObj_twice]; rfl) ?_
  refine low3_nil ?_
  intro W9 hC
  have z_r := (hC.made 7 g_r _ rfl).1
  have B_r : Bk W9 g_r #[.int .i64 p, .int .i64 q] 55 := (hC.made 7 g_r _ rfl).2
  have n_v_r : w.heap.size ≠ g_r := Nat.ne_of_lt (Nat.lt_of_lt_of_le B_v.lt z_r)
  replace B_v := B_v.mut hC.fr (fun e => e)
  have n_p_r : W2.heap.size ≠ g_r := Nat.ne_of_lt (Nat.lt_of_lt_of_le B_p.lt z_r)
  replace B_p := B_p.mut hC.fr (fun e => e)
  have n_q_r : g_q ≠ g_r := Nat.ne_of_lt (Nat.lt_of_lt_of_le B_q.lt z_r)
  replace B_q := B_q.mut hC.fr (fun e => e)
  have hB' := hB.trans (hC.fr.below hS (fun _ _ e => e))
  clear hB hS hm1 hm2 hm3 hV1 hV3 hV5 hrow hbV hrd hr1 hr2 hC hbase hs1 k_p_0 k_p_1 k_p_2 k_p_3 k_p_4 k_p_5
  have hB := hB'; have hS := hB.size; clear hB'
  have c_q_0 := B_q.cell (v := .int .i64 p) 0 rfl
  have c_q_1 := B_q.cell (v := .int .i64 q) 1 rfl
  have lt_q := B_q.lt
  have c_r_0 := B_r.cell (v := .int .i64 p) 0 rfl
  have c_r_1 := B_r.cell (v := .int .i64 q) 1 rfl
  have lt_r := B_r.lt
  go_wp2_with fail
  with_reducible refine (awake21 _).mono ?_
  rintro e W10 ⟨rfl, hb⟩
  clear c_q_0 c_q_1 lt_q c_r_0 c_r_1 lt_r
  have B'_v : Bk W10 (w.heap.size) #[.int .i64 a6, .int .i64 a7] 55 := Bk.below (by (repeat (first | with_reducible assumption | ((with_reducible refine Bk.at_ ?_); first | rfl | (simp; done)) | with_reducible apply Bk.alloc))) hb
  have B'_p : Bk W10 (W2.heap.size) #[.int .i64 L1, .int .i64 R1, .int .i64 B1, .int .i64 L2, .int .i64 R2, .int .i64 B2] 86 := Bk.below (by (repeat (first | with_reducible assumption | ((with_reducible refine Bk.at_ ?_); first | rfl | (simp; done)) | with_reducible apply Bk.alloc))) hb
  have B'_q : Bk W10 (g_q) #[.int .i64 p, .int .i64 q] 55 := Bk.below (by (repeat (first | with_reducible assumption | ((with_reducible refine Bk.at_ ?_); first | rfl | (simp; done)) | with_reducible apply Bk.alloc))) hb
  have B'_r : Bk W10 (g_r) #[.int .i64 p, .int .i64 q] 55 := Bk.below (by (repeat (first | with_reducible assumption | ((with_reducible refine Bk.at_ ?_); first | rfl | (simp; done)) | with_reducible apply Bk.alloc))) hb
  obtain ⟨hB', hS'⟩ := below_c (w := w) hb (by (first | (go_grown; done) | (repeat (first | assumption | (refine Below.setCell ?_ (by first | assumption | (simp; omega) | omega) _) | (refine Below.alloc ?_ (by assumption) _)))))
  clear hb hB hS B_v B_p B_q B_r
  have B_v := B'_v
  have B_p := B'_p
  have B_q := B'_q
  have B_r := B'_r
  have hB := hB'; have hS := hS'; clear hB' hS' B'_v B'_p B'_q B'_r
  go_wp2
  go_returns
  exact ⟨rfl, by (first | (go_grown; done) | (repeat (first | assumption | (refine Below.setCell ?_ (by first | assumption | (simp; omega) | omega) _) | (refine Below.alloc ?_ (by assumption) _))))⟩
end Go.Proofs.Ytolifgjkejhlhaa
