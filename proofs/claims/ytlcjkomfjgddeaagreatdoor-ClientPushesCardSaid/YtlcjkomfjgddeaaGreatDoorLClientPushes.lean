/- The walk of ClientPushes. -/
import Derived.Test.YtlcjkomfjgddeaaGreatDoorPushPlain
import Derived.Test.YtlcjkomfjgddeaaGreatDoorSameC
import Derived.Test.YtlcjkomfjgddeaaGreatDoorM41
import Derived.Maps.AppendAt
import Derived.Deep.RegionHeld3
set_option linter.unusedVariables false
set_option linter.unusedSimpArgs false
namespace Go.Proofs.YtlcjkomfjgddeaaGreatDoor
open Go Go.RowKit Go.Sort
set_option maxRecDepth 100000
attribute [local go_sem] opLow opUpon opLow2 opUpon2 opLow3

/-- a list of bytes that came in -/
def BytesAt (w : World) (a : Option Addr) (n : Nat) (gs : List Int) : Prop :=
  n = gs.length ∧ n ≤ 9223372036854775807 ∧ ∀ i, i < n → ∃ b off, a = some ⟨b, off, none⟩ ∧ w.cell? ⟨b, off + i, none⟩ = some (.int .u8 (gs.getD i 0)) ∧ 0 ≤ gs.getD i 0 ∧ gs.getD i 0 ≤ 255
/-- the client that is pushed to -/
structure PS (w : World) (g : Nat) (ca : Option Addr) (cn cc : Nat) (pa : Option Addr) (pn pc : Nat) (l : List Inp) (V : World) : Prop where
  bk : Bk V g #[.int .i64 2, .int .i64 0, .int .i64 0, .int .i64 10, .slice ca cn cc, .int .i64 0, .slice pa pn pc] 29
  ents : Fresh w.heap.size V (.slice ca cn cc) (baseM 0 0)
  inps : RowI w.heap.size V (.slice pa pn pc) l
  bel : Below w.heap.size w V
theorem PS.below {w : World} {g : Nat} {ca : Option Addr} {cn cc : Nat} {pa : Option Addr} {pn pc : Nat} {l : List Inp} {V V' : World} (h : PS w g ca cn cc pa pn pc l V) (hb : Below V.heap.size V V') : PS w g ca cn cc pa pn pc l V' :=
  ⟨h.bk.below hb, h.ents.below hb, h.inps.below hb, (below_cc hb h.bel).1⟩
theorem step_append_mine {P : Program} (w : World) {ops : Array Oper} {o : Oper} {a : Act} {K : Act → World → Prop} {Q : Exit → Act → World → Prop} {E : Prop}
    (hg : o.guard = none) (s x : Operand) (t : TypeId) (hop : o.op = Op.call { callee := Callee.builtin Builtin.append, args := #[s, x], argTypes := #[t, t] })
    (base : Nat) (e : TypeId) (i : TypeInfo) (z : Value) (size bytes : Nat) (h1 : P.underlying t = some (.slice e)) (h2 : P.info? e = some i) (h3 : i.zero = some z) (h4 : i.size = size) (h5 : i.bytes = bytes) (h6 : z.cells.size = size) (h7 : 0 < size)
    (v : Value) (n : Nat) (xs : List Value) (hs : a.eval s = v) (hown : w.ownsRow base e size v n xs)
    (ad : Addr) (m c : Nat) (news : List Value) (hx : a.eval x = .slice (some ad) m c) (hn : news.length = m * size) (hc : ∀ j u, news[j]? = some u → w.cell? (ad.add j) = some u) (h1c : ∀ u ∈ news, u.oneCell' = true)
    (hm : 0 < m) (b1 : n + m ≤ maxLen) (b2 : (n + m) * bytes ≤ 140737488355328) (hbase : base ≤ w.heap.size)
    (hK : ∀ g cap w', w'.ownsRow base e size (.slice (some ⟨g, 0, none⟩) (n + m) cap) (n + m) (xs ++ news) → w.grownBy w' v.ownBlock → (v.ownBlock = some g ∨ g = w.heap.size) → K (a.put o.dst (.slice (some ⟨g, 0, none⟩) (n + m) cap)) w') :
    if Region.wanted o (yielded ops a.tmps) = true then Oper.wp P o a w K Q else E := by
  have hw : Region.wanted o (yielded ops a.tmps) = true := by simp [Region.wanted, hg]
  rw [if_pos hw]
  obtain ⟨v', w', hrun, r1, r2, -, r5⟩ := run_append_own_at (P := P) w base t o.type e i z size bytes h1 h2 h3 h4 h5 h6 h7 v n xs hown ad m c news hn hc h1c b1 b2 hbase
  obtain ⟨g, cap, rfl, _, _⟩ := r1.form (by omega)
  unfold Oper.wp execOp
  simp only [hop, resolve, invoke, builtin, Sem.run_bind, Sem.run_pure, Result.andThen_ok, List.map_toArray, List.map_cons, List.map_nil, hs, hx, hrun]
  exact hK g cap w' r1 r2 (by
    rcases r5 with h | h
    · exact .inl h.symm
    · exact .inr (Option.some.inj h))
theorem Bk.drew {w : World} {g : Nat} {cs : Array Value} {t : TypeId} (h : Bk w g cs t) : Bk w.drew g cs t := h
theorem ce_cP {w : World} {l : List Inp} {k : Int} {e : Ending} {w' : World} (h : CFPost w (cP l, k) e w') : ∃ a n cap pa pn pc, e = .returned (.tuple #[.agg #[.int .i64 2, .int .i64 0, .int .i64 0, .int .i64 10, .slice a n cap, .int .i64 0, .slice pa pn pc], .int .i64 k]) ∧ (Fresh w.heap.size w' (.slice a n cap) (baseM 0 0) ∧ RowI w.heap.size w' (.slice pa pn pc) l) ∧ Below w.heap.size w w' := h
theorem ce_0 {w : World} {k : Int} {e : Ending} {w' : World} (h : CFPost w (cli0, k) e w') : ∃ a n cap pa pn pc, e = .returned (.tuple #[.agg #[.int .i64 0, .int .i64 0, .int .i64 0, .int .i64 0, .slice a n cap, .int .i64 0, .slice pa pn pc], .int .i64 k]) ∧ Below w.heap.size w w' := by
  obtain ⟨a, n, cap, pa, pn, pc, he, -, hb⟩ := h
  exact ⟨a, n, cap, pa, pn, pc, he, hb⟩
structure PD (w : World) (g : Nat) (ca : Option Addr) (cn cc : Nat) (pa : Option Addr) (pn pc : Nat) (ak : Int) (l : List Inp) (V : World) : Prop where
  bk : Bk V g #[.int .i64 2, .int .i64 0, .int .i64 0, .int .i64 10, .slice ca cn cc, .int .i64 ak, .slice pa pn pc] 29
  ents : Fresh w.heap.size V (.slice ca cn cc) (baseM 1 1)
  inps : RowI w.heap.size V (.slice pa pn pc) l
  bel : Below w.heap.size w V
theorem PD.below {w : World} {g : Nat} {ca : Option Addr} {cn cc : Nat} {pa : Option Addr} {pn pc : Nat} {ak : Int} {l : List Inp} {V V' : World} (h : PD w g ca cn cc pa pn pc ak l V) (hb : Below V.heap.size V V') : PD w g ca cn cc pa pn pc ak l V' :=
  ⟨h.bk.below hb, h.ents.below hb, h.inps.below hb, (below_cc hb h.bel).1⟩
theorem RowI.agree {base : Nat} {w w' : World} {v : Value} {l : List Inp} (h : RowI base w v l) (hb : ∀ b, base ≤ b → b < w.heap.size → w'.heap[b]? = w.heap[b]?) : RowI base w' v l := by
  refine ⟨⟨h.1.1, ?_⟩, h.2⟩
  rcases h.1.2 with h1 | ⟨g, cap, cur, hv, hg, hh, hrr⟩
  · exact .inl h1
  · refine .inr ⟨g, cap, cur, hv, hg, ?_, hrr⟩
    have hlt : g < w.heap.size := (Array.getElem?_eq_some_iff.1 hh).1
    rw [hb g hg hlt]; exact hh
def aD (ak : Int) (L : List Inp) : Array Value → Value → World → World → Prop := fun _ v w1 w2 => ∃ a n cap pa pn pc, v = .tuple #[.agg #[.int .i64 2, .int .i64 0, .int .i64 0, .int .i64 10, .slice a n cap, .int .i64 ak, .slice pa pn pc], .int .i64 0] ∧ Fresh w1.heap.size w2 (.slice a n cap) (baseM 1 1) ∧ RowI w1.heap.size w2 (.slice pa pn pc) L
def aZ (k : Int) : Array Value → Value → World → World → Prop := fun _ v w1 w2 => ∃ a n cap pa pn pc, v = .tuple #[.agg #[.int .i64 0, .int .i64 0, .int .i64 0, .int .i64 0, .slice a n cap, .int .i64 0, .slice pa pn pc], .int .i64 k]
set_option maxHeartbeats 16000000 in
theorem pushes_any (gs : List Int) (a : Option Addr) (n c : Nat) (hnc : n ≤ c) (nn : Int) (hn : 0 ≤ nn ∧ nn ≤ 65535) (w : World) (hR : RG w) (hM : RM w) (hw : 2 ≤ w.heap.size) (h : BytesAt w a n gs) :
    Calls Tryz.prog 5 #[.slice a n c, .int .u16 nn] w fun e w' => e = .returned (.bool true) ∧ Below w.heap.size w w' := by
  have AWK := Lib.hid (fun V (hV : Below w.heap.size w V) => awake_any V (hR.below hV) (hM.low hV hw) (Nat.le_trans hw hV.size))
  have PU := Lib.hid (fun V (hV : Below w.heap.size w V) (cl : Cli) (x : Inp) a n cap pa pn pc hE hP => push_fresh cl x a n cap pa pn pc V (hR.below hV) hE hP)
  have RE := Lib.hid (fun V (hV : Below w.heap.size w V) (cl : Cli) (b : Wld) k a n cap pa pn pc ba bn bc hE hP hB => recv_fresh cl b k a n cap pa pn pc ba bn bc V (hR.below hV) hE hP hB)
  obtain ⟨i0, hi, hz0, hz1, hz2⟩ := info_parts infoI
  have HIi := Lib.hid hi
  have HBy := Lib.hid h
  have hnm := h.2.1
  obtain ⟨m, hm⟩ : ∃ m, min n 70 = m := ⟨_, rfl⟩
  have hm1 : m ≤ n := by omega
  have hm2 : m ≤ 70 := by omega
  have hmc : m ≤ c := by omega
  have hmi : min (n : Int) 70 = (m : Int) := by omega
  have HMM := Lib.hid hmi
  clear hR hM hw h hm hi hmi
  go_enter Tryz.func5, Tryz.ntmps5
  go_wp2_with fail
  refine (base_fresh 10 0 0 _).mono ?_
  rintro e V1 ⟨ba, bn, bc, rfl, hE1, hb1⟩
  have hs1 := hb1.size
  have HE1 := Lib.hid (And.intro hE1 hb1)
  clear hE1 hb1
  unfold Wv
  try simp only
  go_upto_region 2 with fail
  refine wp_name (fun V => PS w V1.heap.size ba bn bc none 0 0 [] V) ⟨Bk.made _ _ _, Fresh.below HE1.out.1 ((Below.refl _ _).alloc (Nat.le_refl _) _), ⟨World.ownsRow_nil _ _ _ _, by simp⟩, HE1.out.2.alloc hs1 _⟩ ?_
  obtain ⟨g5, hg5⟩ : ∃ g, V1.heap.size = g := ⟨_, rfl⟩
  rw [hg5] at hs1 ⊢
  clear hg5 HE1
  intro W1 hP
  have HP0 := Lib.hid hP
  clear hP
  go_wp2_with (refine wpList_min2 _ rfl _ _ _ rfl _ _ _ rfl rfl ?_; rw [HMM.out])
  go_loopw [6, 7, 35] (fun v6 v7 v35 wr => ∃ (k : Nat) (sq : Int) (ca : Option Addr) (cn cc : Nat) (pa : Option Addr) (pn pc : Nat) (aa : Option Addr) (ac : Nat), (k ≤ m ∧ k ≤ 64 ∧ v35 = .int .i64 k) ∧ (Hid (seqOf gs k = sq) ∧ v7 = .int .i64 sq) ∧ v6 = .slice aa k ac ∧ PS w g5 ca cn cc pa pn pc (insOf gs k) wr ∧ RowI w.heap.size wr (.slice aa k ac) (insOf gs k)) (fun v6 v7 v35 _ => m - (intOf v35).toNat)
  case atStart => exact ⟨0, 0, ba, bn, bc, none, 0, 0, none, 0, ⟨by omega, by omega, rfl⟩, ⟨Lib.hid rfl, rfl⟩, rfl, HP0.out, ⟨World.ownsRow_nil _ _ _ _, by simp [insOf]⟩⟩
  case round =>
    clear HP0
    obtain ⟨k, sq, ca, cn, cc, pa, pn, pc, aa, ac, ⟨hk, hk2, rfl⟩, ⟨HSQ, rfl⟩, rfl, hP, hRo⟩ := hrel
    have HP := Lib.hid (And.intro hP hRo)
    by_cases hlt : k < m
    · obtain ⟨b, off, rfl, hcell, hx0, hx1⟩ := HBy.out.2.2 k (by omega)
      obtain ⟨x, hx⟩ : ∃ x, gs.getD k 0 = x := ⟨_, rfl⟩
      rw [hx] at hcell hx0 hx1
      have hsq := seq_bd gs k
      rw [HSQ.out] at hsq
      obtain ⟨hq0, hq1⟩ := hsq
      have m0 : Int.tmod x 8 = x % 8 := Int.tmod_eq_emod_of_nonneg hx0
      obtain ⟨d, hd⟩ : ∃ d, x % 8 = d := ⟨_, rfl⟩
      have hd0 : 0 ≤ d ∧ d < 8 := by omega
      obtain ⟨d0, d1⟩ := hd0
      rw [hd] at m0
      obtain ⟨sn, hsn⟩ : ∃ sn, sq + (1 + d) = sn := ⟨_, rfl⟩
      have hsn2 : seqOf gs (k + 1) = sn := by rw [seqOf, HSQ.out, hx, hd, hsn]
      have HSN := Lib.hid hsn2
      have hw1 : IntKind.i64.wrap (1 + d) = 1 + d := by rw [IntKind.wrap_i64]; omega
      have hw2 : IntKind.i64.wrap (sq + (1 + d)) = sn := by rw [hsn, IntKind.wrap_i64]; omega
      have hwd : IntKind.u8.wrap d = d := by simp [IntKind.wrap, IntKind.bits, IntKind.signed]; omega
      replace hcell := cell_later hP.bel hcell
      have hsw := hP.bel.size
      clear hsn hsn2 hd
      clear hP hRo
      go_upto_region 9 with fail
      refine wp_name (fun V => (PS w g5 ca cn cc pa pn pc (insOf gs k) V ∧ RowI w.heap.size V (.slice aa k ac) (insOf gs k)) ∧ Bk V wr.heap.size #[.int .i64 2, .int .i64 sn, .int .i64 0, .int .i64 (k : Int), .int .i64 0, .bool false, .int .i64 0, .int .i64 0, .int .i64 0, .int .i64 0] 37) ⟨⟨HP.out.1.below ((Below.refl _ _).alloc (Nat.le_refl _) _), HP.out.2.below ((Below.refl _ _).alloc (Nat.le_refl _) _)⟩, Bk.made _ _ _⟩ ?_
      obtain ⟨g10, hg10⟩ : ∃ g, wr.heap.size = g := ⟨_, rfl⟩
      have hrw : ∀ r, (Value.slice aa k ac).ownBlock = some r → r ≠ g10 := fun r hr q => by have := (HP.out.2.1.lt r hr).2; omega
      rw [hg10] at hsw ⊢
      clear hg10 HP hcell
      rintro V2 ⟨⟨hP, hRo⟩, BI⟩
      have hin : inpOf gs k = ⟨2, sn, 0, k, 0, false, 0, 0, 0, 0⟩ := by unfold inpOf; rw [HSN.out]
      have HIN := Lib.hid hin
      have s0 := hP.bk.cell (v := .int .i64 2) 0 rfl
      have s1 := hP.bk.cell (v := .int .i64 0) 1 rfl
      have s2 := hP.bk.cell (v := .int .i64 0) 2 rfl
      have s3 := hP.bk.cell (v := .int .i64 10) 3 rfl
      have s4 := hP.bk.cell (v := .slice ca cn cc) 4 rfl
      have s5 := hP.bk.cell (v := .int .i64 0) 5 rfl
      have s6 := hP.bk.cell (v := .slice pa pn pc) 6 rfl
      have sl := hP.bk.lt
      have j0 := BI.cell (v := .int .i64 2) 0 rfl
      have j1 := BI.cell (v := .int .i64 sn) 1 rfl
      have j2 := BI.cell (v := .int .i64 0) 2 rfl
      have j3 := BI.cell (v := .int .i64 (k : Int)) 3 rfl
      have j4 := BI.cell (v := .int .i64 0) 4 rfl
      have j5 := BI.cell (v := .bool false) 5 rfl
      have j6 := BI.cell (v := .int .i64 0) 6 rfl
      have j7 := BI.cell (v := .int .i64 0) 7 rfl
      have j8 := BI.cell (v := .int .i64 0) 8 rfl
      have j9 := BI.cell (v := .int .i64 0) 9 rfl
      have jl := BI.lt
      by_cases h64 : k < 64
      · have PK : Calls Tryz.prog 19 #[.agg #[.int .i64 2, .int .i64 0, .int .i64 0, .int .i64 10, .slice ca cn cc, .int .i64 0, .slice pa pn pc], .agg #[.int .i64 2, .int .i64 sn, .int .i64 0, .int .i64 (k : Int), .int .i64 0, .bool false, .int .i64 0, .int .i64 0, .int .i64 0, .int .i64 0]] V2 (CFPost V2 (cP (insOf gs (k + 1)), 0)) := by
          have := PU.out V2 hP.bel (cP (insOf gs k)) (inpOf gs k) ca cn cc pa pn pc hP.ents.ents hP.inps.inps
          rw [push_free gs h64, hin] at this
          exact this
        have HPK := Lib.hid PK
        have HP := Lib.hid (And.intro hP (And.intro hRo BI))
        clear PK hP hRo BI hin
        go_wp2_with fail
        refine HPK.out.mono ?_
        rintro e V3 hce
        obtain ⟨a3, n3, c3, pa3, pn3, pc3, rfl, hE3, hb3⟩ := ce_cP hce
        have hap : ∀ q r, (Value.slice aa k ac).ownBlock = some q → (Value.slice pa3 pn3 pc3).ownBlock = some r → q < r := fun q r hq hr => Nat.lt_of_lt_of_le (HP.out.2.1.1.lt q hq).2 (hE3.2.1.lt r hr).1
        have HAP := Lib.hid hap
        have HS2 := HP.out.1.bel.size
        replace hE3 := And.intro (hE3.1.mono HS2) (hE3.2.mono HS2)
        have HP3 := Lib.hid (And.intro (And.intro (HP.out.1.below hb3) (And.intro (HP.out.2.1.below hb3) (HP.out.2.2.below hb3))) hE3)
        clear hce hb3 hE3 HP HPK hap HS2 s0 s1 s2 s3 s4 s5 s6 sl j0 j1 j2 j3 j4 j5 j6 j7 j8 j9 jl
        go_upto_region 10 with fail
        refine wp_name (fun V => (PS w g5 ca cn cc pa pn pc (insOf gs k) V ∧ RowI w.heap.size V (.slice aa k ac) (insOf gs k) ∧ Bk V g10 #[.int .i64 2, .int .i64 sn, .int .i64 0, .int .i64 (k : Int), .int .i64 0, .bool false, .int .i64 0, .int .i64 0, .int .i64 0, .int .i64 0] 37) ∧ PS w V3.heap.size a3 n3 c3 pa3 pn3 pc3 (insOf gs (k + 1)) V) ⟨⟨HP3.out.1.1.below ((Below.refl _ _).alloc (Nat.le_refl _) _), HP3.out.1.2.1.below ((Below.refl _ _).alloc (Nat.le_refl _) _), HP3.out.1.2.2.below ((Below.refl _ _).alloc (Nat.le_refl _) _)⟩, ⟨Bk.made _ _ _, HP3.out.2.1.below ((Below.refl _ _).alloc (Nat.le_refl _) _), HP3.out.2.2.below ((Below.refl _ _).alloc (Nat.le_refl _) _), HP3.out.1.1.bel.alloc HP3.out.1.1.bel.size _⟩⟩ ?_
        obtain ⟨g11, hg11⟩ : ∃ g, V3.heap.size = g := ⟨_, rfl⟩
        rw [hg11]
        have n10 := HP3.out.1.2.2.lt
        have n5 := HP3.out.1.1.bk.lt
        have n0 := HP3.out.1.1.bel.size
        rw [hg11] at n10 n5 n0
        clear hg11 HP3
        rintro V4 ⟨⟨hP, hRo, BI⟩, hN⟩
        have d1 : ((k : Int) == 64) = false := by simp; omega
        have PK : Calls Tryz.prog 19 #[.agg #[.int .i64 2, .int .i64 0, .int .i64 0, .int .i64 10, .slice a3 n3 c3, .int .i64 0, .slice pa3 pn3 pc3], .agg #[.int .i64 2, .int .i64 sn, .int .i64 0, .int .i64 (k : Int), .int .i64 0, .bool false, .int .i64 0, .int .i64 0, .int .i64 0, .int .i64 0]] V4 (CFPost V4 (cli0, 2)) := by
          have := PU.out V4 hN.bel (cP (insOf gs (k + 1))) (inpOf gs k) a3 n3 c3 pa3 pn3 pc3 hN.ents.ents hN.inps.inps
          rw [push_twice gs h64, HIN.out] at this
          exact this
        have HPK := Lib.hid PK
        have t0 := hN.bk.cell (v := .int .i64 2) 0 rfl
        have t1 := hN.bk.cell (v := .int .i64 0) 1 rfl
        have t2 := hN.bk.cell (v := .int .i64 0) 2 rfl
        have t3 := hN.bk.cell (v := .int .i64 10) 3 rfl
        have t4 := hN.bk.cell (v := .slice a3 n3 c3) 4 rfl
        have t5 := hN.bk.cell (v := .int .i64 0) 5 rfl
        have t6 := hN.bk.cell (v := .slice pa3 pn3 pc3) 6 rfl
        have tl := hN.bk.lt
        have j0 := BI.cell (v := .int .i64 2) 0 rfl
        have j1 := BI.cell (v := .int .i64 sn) 1 rfl
        have j2 := BI.cell (v := .int .i64 0) 2 rfl
        have j3 := BI.cell (v := .int .i64 (k : Int)) 3 rfl
        have j4 := BI.cell (v := .int .i64 0) 4 rfl
        have j5 := BI.cell (v := .bool false) 5 rfl
        have j6 := BI.cell (v := .int .i64 0) 6 rfl
        have j7 := BI.cell (v := .int .i64 0) 7 rfl
        have j8 := BI.cell (v := .int .i64 0) 8 rfl
        have j9 := BI.cell (v := .int .i64 0) 9 rfl
        have jl := BI.lt
        have HP := Lib.hid (And.intro hP (And.intro hRo (And.intro BI hN)))
        clear PK hP hRo BI hN
        go_wp2_with fail
        refine HPK.out.mono ?_
        rintro e V5 hce
        obtain ⟨a4, n4, c4, pa4, pn4, pc4, rfl, hb5⟩ := ce_0 hce
        have HP5 := Lib.hid (And.intro (HP.out.1.below hb5) (And.intro (HP.out.2.1.below hb5) (And.intro (HP.out.2.2.1.below hb5) (HP.out.2.2.2.below hb5))))
        clear hce hb5 HP HPK t0 t1 t2 t3 t4 t5 t6 tl j0 j1 j2 j3 j4 j5 j6 j7 j8 j9 jl
        go_upto_region 13 with fail
        refine wp_name (fun V => PS w g5 ca cn cc pa pn pc (insOf gs k) V ∧ RowI w.heap.size V (.slice aa k ac) (insOf gs k) ∧ Bk V g10 #[.int .i64 2, .int .i64 sn, .int .i64 0, .int .i64 (k : Int), .int .i64 0, .bool false, .int .i64 0, .int .i64 0, .int .i64 0, .int .i64 0] 37 ∧ PS w g11 a3 n3 c3 pa3 pn3 pc3 (insOf gs (k + 1)) V) ⟨HP5.out.1.below ((Below.refl _ _).alloc (Nat.le_refl _) _), HP5.out.2.1.below ((Below.refl _ _).alloc (Nat.le_refl _) _), HP5.out.2.2.1.below ((Below.refl _ _).alloc (Nat.le_refl _) _), HP5.out.2.2.2.below ((Below.refl _ _).alloc (Nat.le_refl _) _)⟩ ?_
        clear HP5
        rintro V6 ⟨hP, hRo, BI, hN⟩
        go_wp2
        have n511 : g5 ≠ g11 := Nat.ne_of_lt n5
        have n510 : g5 ≠ g10 := hP.bk.ne BI (by decide)
        have n115 : g11 ≠ g5 := fun q => n511 q.symm
        have n105 : g10 ≠ g5 := fun q => n510 q.symm
        have hk1 : k + 1 ≤ 64 := by omega
        have hg5w := hs1
        have q0 := hN.bk.cell (v := .int .i64 2) 0 rfl
        have q1 := hN.bk.cell (v := .int .i64 0) 1 rfl
        have q2 := hN.bk.cell (v := .int .i64 0) 2 rfl
        have q3 := hN.bk.cell (v := .int .i64 10) 3 rfl
        have q4 := hN.bk.cell (v := .slice a3 n3 c3) 4 rfl
        have q5 := hN.bk.cell (v := .int .i64 0) 5 rfl
        have q6 := hN.bk.cell (v := .slice pa3 pn3 pc3) 6 rfl
        have ql := hN.bk.lt
        have j0 := BI.cell (v := .int .i64 2) 0 rfl
        have j1 := BI.cell (v := .int .i64 sn) 1 rfl
        have j2 := BI.cell (v := .int .i64 0) 2 rfl
        have j3 := BI.cell (v := .int .i64 (k : Int)) 3 rfl
        have j4 := BI.cell (v := .int .i64 0) 4 rfl
        have j5 := BI.cell (v := .bool false) 5 rfl
        have j6 := BI.cell (v := .int .i64 0) 6 rfl
        have j7 := BI.cell (v := .int .i64 0) 7 rfl
        have j8 := BI.cell (v := .int .i64 0) 8 rfl
        have j9 := BI.cell (v := .int .i64 0) 9 rfl
        have jl := BI.lt
        have l6 : V6.heap.size ≠ g10 := fun q => by have := BI.lt; omega
        have HP := Lib.hid (And.intro hP (And.intro hRo (And.intro BI hN)))
        have KP : ∀ w', Bk w' g11 #[.int .i64 2, .int .i64 0, .int .i64 0, .int .i64 10, .slice a3 n3 c3, .int .i64 0, .slice pa3 pn3 pc3] 29 → Bk w' g10 #[.int .i64 2, .int .i64 sn, .int .i64 0, .int .i64 (k : Int), .int .i64 0, .bool false, .int .i64 0, .int .i64 0, .int .i64 0, .int .i64 0] 37 → (w'.cell? ⟨g11, 0, none⟩ = some (.int .i64 2) ∧ w'.cell? ⟨g11, 1, none⟩ = some (.int .i64 0) ∧ w'.cell? ⟨g11, 2, none⟩ = some (.int .i64 0) ∧ w'.cell? ⟨g11, 3, none⟩ = some (.int .i64 10) ∧ w'.cell? ⟨g11, 4, none⟩ = some (.slice a3 n3 c3) ∧ w'.cell? ⟨g11, 5, none⟩ = some (.int .i64 0) ∧ w'.cell? ⟨g11, 6, none⟩ = some (.slice pa3 pn3 pc3) ∧ w'.cell? ⟨g10, 0, none⟩ = some (.int .i64 2) ∧ w'.cell? ⟨g10, 1, none⟩ = some (.int .i64 sn) ∧ w'.cell? ⟨g10, 2, none⟩ = some (.int .i64 0) ∧ w'.cell? ⟨g10, 3, none⟩ = some (.int .i64 (k : Int)) ∧ w'.cell? ⟨g10, 4, none⟩ = some (.int .i64 0) ∧ w'.cell? ⟨g10, 5, none⟩ = some (.bool false) ∧ w'.cell? ⟨g10, 6, none⟩ = some (.int .i64 0) ∧ w'.cell? ⟨g10, 7, none⟩ = some (.int .i64 0) ∧ w'.cell? ⟨g10, 8, none⟩ = some (.int .i64 0) ∧ w'.cell? ⟨g10, 9, none⟩ = some (.int .i64 0)) := fun w' B1 B2 => ⟨B1.cell 0 rfl, B1.cell 1 rfl, B1.cell 2 rfl, B1.cell 3 rfl, B1.cell 4 rfl, B1.cell 5 rfl, B1.cell 6 rfl, B2.cell 0 rfl, B2.cell 1 rfl, B2.cell 2 rfl, B2.cell 3 rfl, B2.cell 4 rfl, B2.cell 5 rfl, B2.cell 6 rfl, B2.cell 7 rfl, B2.cell 8 rfl, B2.cell 9 rfl⟩
        have KA11 := hN.bk
        have KA10 := BI
        have KB11 : Bk V6.drew g11 #[.int .i64 2, .int .i64 0, .int .i64 0, .int .i64 10, .slice a3 n3 c3, .int .i64 0, .slice pa3 pn3 pc3] 29 := hN.bk
        have KB10 : Bk V6.drew g10 #[.int .i64 2, .int .i64 sn, .int .i64 0, .int .i64 (k : Int), .int .i64 0, .bool false, .int .i64 0, .int .i64 0, .int .i64 0, .int .i64 0] 37 := BI
        clear hP hRo BI hN
        go_region_held3 (fun w' => w'.cell? ⟨g11, 0, none⟩ = some (.int .i64 2) ∧ w'.cell? ⟨g11, 1, none⟩ = some (.int .i64 0) ∧ w'.cell? ⟨g11, 2, none⟩ = some (.int .i64 0) ∧ w'.cell? ⟨g11, 3, none⟩ = some (.int .i64 10) ∧ w'.cell? ⟨g11, 4, none⟩ = some (.slice a3 n3 c3) ∧ w'.cell? ⟨g11, 5, none⟩ = some (.int .i64 0) ∧ w'.cell? ⟨g11, 6, none⟩ = some (.slice pa3 pn3 pc3) ∧ w'.cell? ⟨g10, 0, none⟩ = some (.int .i64 2) ∧ w'.cell? ⟨g10, 1, none⟩ = some (.int .i64 sn) ∧ w'.cell? ⟨g10, 2, none⟩ = some (.int .i64 0) ∧ w'.cell? ⟨g10, 3, none⟩ = some (.int .i64 (k : Int)) ∧ w'.cell? ⟨g10, 4, none⟩ = some (.int .i64 0) ∧ w'.cell? ⟨g10, 5, none⟩ = some (.bool false) ∧ w'.cell? ⟨g10, 6, none⟩ = some (.int .i64 0) ∧ w'.cell? ⟨g10, 7, none⟩ = some (.int .i64 0) ∧ w'.cell? ⟨g10, 8, none⟩ = some (.int .i64 0) ∧ w'.cell? ⟨g10, 9, none⟩ = some (.int .i64 0)) (refine KP _ ?_ ?_ <;> (repeat (first | with_reducible assumption | (with_reducible refine Bk.far ?_ n115 _) | (with_reducible refine Bk.far ?_ n105 _) | (with_reducible refine Bk.alloc ?_ _) | (with_reducible refine Bk.drew ?_))))
          (first
            | (refine step_append_mine _ rfl _ _ 27 rfl w.heap.size 37 i0 (.agg #[.int .i64 0, .int .i64 0, .int .i64 0, .int .i64 0, .int .i64 0, .bool false, .int .i64 0, .int .i64 0, .int .i64 0, .int .i64 0]) 10 80 Tryz.underlying27 HIi.out hz0 hz1 hz2 rfl (by decide) (.slice aa k ac) (insOf gs k).length (ivs (insOf gs k)) rfl (HP.out.2.1.below ((Below.refl _ _).alloc (Nat.le_refl _) (.cells #[.int .i64 2, .int .i64 sn, .int .i64 0, .int .i64 (k : Int), .int .i64 0, .bool false, .int .i64 0, .int .i64 0, .int .i64 0, .int .i64 0] 37))).1 ⟨V6.heap.size, 0, none⟩ 1 1 [.int .i64 2, .int .i64 sn, .int .i64 0, .int .i64 (k : Int), .int .i64 0, .bool false, .int .i64 0, .int .i64 0, .int .i64 0, .int .i64 0] rfl rfl ?c1 ?c2 (by decide) ?c4 ?c5 ?c6 ?_; (case c1 => (intro j u hj; rw [Addr.add_lit, Nat.zero_add]; exact (Bk.made V6 #[.int .i64 2, .int .i64 sn, .int .i64 0, .int .i64 (k : Int), .int .i64 0, .bool false, .int .i64 0, .int .i64 0, .int .i64 0, .int .i64 0] 37).cell j (by rw [← hj]; simp))); (case c2 => exact ivs_one [⟨2, sn, 0, (k : Int), 0, false, 0, 0, 0, 0⟩]); (case c4 => (rw [ins_len]; unfold maxLen; omega)); (case c5 => (rw [ins_len]; omega)); (case c6 => exact Nat.le_trans HP.out.1.bel.size (by simp)); (intro gS capS wS hownS hgS hatS); (have HR7 := HP.out.2.1.below ((Below.refl _ _).alloc (Nat.le_refl _) (.cells #[.int .i64 2, .int .i64 sn, .int .i64 0, .int .i64 (k : Int), .int .i64 0, .bool false, .int .i64 0, .int .i64 0, .int .i64 0, .int .i64 0] 37))); (have D11 := HP.out.2.2.2.bk.alloc (.cells #[.int .i64 2, .int .i64 sn, .int .i64 0, .int .i64 (k : Int), .int .i64 0, .bool false, .int .i64 0, .int .i64 0, .int .i64 0, .int .i64 0] 37)); (have D10 := HP.out.2.2.1.alloc (.cells #[.int .i64 2, .int .i64 sn, .int .i64 0, .int .i64 (k : Int), .int .i64 0, .bool false, .int .i64 0, .int .i64 0, .int .i64 0, .int .i64 0] 37)); (have D5 := HP.out.1.bk.alloc (.cells #[.int .i64 2, .int .i64 sn, .int .i64 0, .int .i64 (k : Int), .int .i64 0, .bool false, .int .i64 0, .int .i64 0, .int .i64 0, .int .i64 0] 37)); (have E11 : Bk wS g11 #[.int .i64 2, .int .i64 0, .int .i64 0, .int .i64 10, .slice a3 n3 c3, .int .i64 0, .slice pa3 pn3 pc3] 29 := (hgS.block _ D11.lt (bk_ne_row D11 (by decide) HR7.1)).trans D11); (have E10 : Bk wS g10 #[.int .i64 2, .int .i64 sn, .int .i64 0, .int .i64 (k : Int), .int .i64 0, .bool false, .int .i64 0, .int .i64 0, .int .i64 0, .int .i64 0] 37 := (hgS.block _ D10.lt (fun q => hrw _ q.symm rfl)).trans D10); (have E5 : Bk wS g5 #[.int .i64 2, .int .i64 0, .int .i64 0, .int .i64 10, .slice ca cn cc, .int .i64 0, .slice pa pn pc] 29 := (hgS.block _ D5.lt (bk_ne_row D5 (by decide) HR7.1)).trans D5); (have HG := Lib.hid (And.intro hownS (And.intro hgS hatS))); (have HE5 := Lib.hid (And.intro E5 (And.intro E10 E11))); (have e0 := E5.cell (v := .int .i64 2) 0 rfl); (have f0 := E5.free 0); (have e1 := E5.cell (v := .int .i64 0) 1 rfl); (have f1 := E5.free 1); (have e2 := E5.cell (v := .int .i64 0) 2 rfl); (have f2 := E5.free 2); (have e3 := E5.cell (v := .int .i64 10) 3 rfl); (have f3 := E5.free 3); (have e4 := E5.cell (v := .slice ca cn cc) 4 rfl); (have f4 := E5.free 4); (have e5 := E5.cell (v := .int .i64 0) 5 rfl); (have f5 := E5.free 5); (have e6 := E5.cell (v := .slice pa pn pc) 6 rfl); (have f6 := E5.free 6); (have l5 := E5.lt);  clear hownS hgS hatS HR7 D11 D10 D5 E5))
        have hbd : Below V6.heap.size V6 (V6.alloc (.cells #[.int .i64 2, .int .i64 sn, .int .i64 0, .int .i64 (k : Int), .int .i64 0, .bool false, .int .i64 0, .int .i64 0, .int .i64 0, .int .i64 0] 37)).drew := ((Below.refl _ _).alloc (Nat.le_refl _) _).drew
        have HR7 := HP.out.2.1.below hbd
        have HE7 := (HP.out.2.2.2.ents.below hbd).grownI HG.out.2.1 HR7.1 (by decide) (by decide)
        have HN7 := HP.out.2.2.2.inps.below hbd
        have HN8 : RowI w.heap.size wS (.slice pa3 pn3 pc3) (insOf gs (k + 1)) := ⟨HN7.1.kept HG.out.2.1 (by
          rcases h : (Value.slice pa3 pn3 pc3).ownBlock with _ | r
          · exact .inl rfl
          · exact .inr (fun q => by have := HAP.out r r q.symm h; omega)), HN7.2⟩
        have HB7 : Below w.heap.size w wS := (HP.out.1.bel.alloc HP.out.1.bel.size (.cells #[.int .i64 2, .int .i64 sn, .int .i64 0, .int .i64 (k : Int), .int .i64 0, .bool false, .int .i64 0, .int .i64 0, .int .i64 0, .int .i64 0] 37)).drew.grown HG.out.2.1 (Nat.le_trans HP.out.1.bel.size (by simp)) (fun q e => (HR7.1.lt q e).1)
        have HO7 : RowI w.heap.size wS (.slice (some ⟨gS, 0, none⟩) (k + 1) capS) (insOf gs (k + 1)) := by
          have h1 := HG.out.1
          rw [ins_len] at h1
          refine ⟨?_, by rw [ins_len]; omega⟩
          rw [ins_len, insOf, HIN.out]
          unfold ivs at h1 ⊢
          rw [List.flatMap_append]
          exact h1
        have E5 := HE5.out.1
        have D0 := E5.put 0 (.int .i64 2)
        have D1 := D0.put 1 (.int .i64 0)
        have D2 := D1.put 2 (.int .i64 0)
        have D3 := D2.put 3 (.int .i64 10)
        have D4 := D3.put 4 (.slice a3 n3 c3)
        have D5 := D4.put 5 (.int .i64 0)
        have D6 := D5.put 6 (.slice pa3 pn3 pc3)
        have HX := Lib.hid (And.intro (PS.mk D6 (((((((HE7.set (p := ⟨g5, 0, none⟩) E5 (by decide) (by decide) (.int .i64 2)).set (p := ⟨g5, 1, none⟩) D0 (by decide) (by decide) (.int .i64 0)).set (p := ⟨g5, 2, none⟩) D1 (by decide) (by decide) (.int .i64 0)).set (p := ⟨g5, 3, none⟩) D2 (by decide) (by decide) (.int .i64 10)).set (p := ⟨g5, 4, none⟩) D3 (by decide) (by decide) (.slice a3 n3 c3)).set (p := ⟨g5, 5, none⟩) D4 (by decide) (by decide) (.int .i64 0)).set (p := ⟨g5, 6, none⟩) D5 (by decide) (by decide) (.slice pa3 pn3 pc3)) (((((((HN8.set (p := ⟨g5, 0, none⟩) E5 (by decide) (.int .i64 2)).set (p := ⟨g5, 1, none⟩) D0 (by decide) (.int .i64 0)).set (p := ⟨g5, 2, none⟩) D1 (by decide) (.int .i64 0)).set (p := ⟨g5, 3, none⟩) D2 (by decide) (.int .i64 10)).set (p := ⟨g5, 4, none⟩) D3 (by decide) (.slice a3 n3 c3)).set (p := ⟨g5, 5, none⟩) D4 (by decide) (.int .i64 0)).set (p := ⟨g5, 6, none⟩) D5 (by decide) (.slice pa3 pn3 pc3)) (((((((HB7.setCell (p := ⟨g5, 0, none⟩) hs1 (.int .i64 2)).setCell (p := ⟨g5, 1, none⟩) hs1 (.int .i64 0)).setCell (p := ⟨g5, 2, none⟩) hs1 (.int .i64 0)).setCell (p := ⟨g5, 3, none⟩) hs1 (.int .i64 10)).setCell (p := ⟨g5, 4, none⟩) hs1 (.slice a3 n3 c3)).setCell (p := ⟨g5, 5, none⟩) hs1 (.int .i64 0)).setCell (p := ⟨g5, 6, none⟩) hs1 (.slice pa3 pn3 pc3))) (((((((HO7.set (p := ⟨g5, 0, none⟩) E5 (by decide) (.int .i64 2)).set (p := ⟨g5, 1, none⟩) D0 (by decide) (.int .i64 0)).set (p := ⟨g5, 2, none⟩) D1 (by decide) (.int .i64 0)).set (p := ⟨g5, 3, none⟩) D2 (by decide) (.int .i64 10)).set (p := ⟨g5, 4, none⟩) D3 (by decide) (.slice a3 n3 c3)).set (p := ⟨g5, 5, none⟩) D4 (by decide) (.int .i64 0)).set (p := ⟨g5, 6, none⟩) D5 (by decide) (.slice pa3 pn3 pc3)))
        clear D0 D1 D2 D3 D4 D5 D6
        have hln := ins_len gs k
        rw [hln]
        clear hbd E5 HR7 HE7 HN7 HN8 HB7 HO7 HG HE5 HP KP KA11 KA10 KB11 KB10 hln l5 e0 f0 e1 f1 e2 f2 e3 f3 e4 f4 e5 f5 e6 f6
        refine at_name (R := Exit.inBlock 1 (Exit.then _ _) Exit.normal) (fun V => PS w g5 a3 n3 c3 pa3 pn3 pc3 (insOf gs (k + 1)) V ∧ RowI w.heap.size V (.slice (some ⟨gS, 0, none⟩) (k + 1) capS) (insOf gs (k + 1))) HX.out ?_
        clear HX
        rintro V7 ⟨hP, hRo⟩
        go_wp2
        go_roundw
        case rel => exact ⟨k + 1, sn, a3, n3, c3, pa3, pn3, pc3, some ⟨gS, 0, none⟩, capS, ⟨by omega, by omega, by go_num⟩, ⟨HSN, rfl⟩, rfl, hP, hRo⟩
        case measure => simp [intOf]; omega
      · obtain rfl : k = 64 := by omega
        have PK : Calls Tryz.prog 19 #[.agg #[.int .i64 2, .int .i64 0, .int .i64 0, .int .i64 10, .slice ca cn cc, .int .i64 0, .slice pa pn pc], .agg #[.int .i64 2, .int .i64 sn, .int .i64 0, .int .i64 ((64 : Nat) : Int), .int .i64 0, .bool false, .int .i64 0, .int .i64 0, .int .i64 0, .int .i64 0]] V2 (CFPost V2 (cli0, 4)) := by
          have := PU.out V2 hP.bel (cP (insOf gs 64)) (inpOf gs 64) ca cn cc pa pn pc hP.ents.ents hP.inps.inps
          rw [push_over gs, hin] at this
          exact this
        have HPK := Lib.hid PK
        have HP := Lib.hid hP.bel
        have d1 : (((64 : Nat) : Int) == 64) = true := by decide
        clear PK hP hRo BI hin
        go_wp2_with fail
        refine HPK.out.mono ?_
        rintro e V3 hce
        obtain ⟨a3, n3, c3, pa3, pn3, pc3, rfl, hb3⟩ := ce_0 hce
        obtain ⟨hb, hs⟩ := below_cc hb3 HP.out
        clear hce hb3 HP HPK s0 s1 s2 s3 s4 s5 s6 sl j0 j1 j2 j3 j4 j5 j6 j7 j8 j9 jl
        go_upto_region 10 with fail
        refine wp_name (fun V => Below w.heap.size w V) (hb.alloc hs _) ?_
        clear hb hs
        intro V4 hb
        go_wp2_with fail
        refine (AWK.out _ hb).mono ?_
        rintro e VA ⟨rfl, hbA⟩
        have hbE := (below_cc hbA hb).1
        clear hbA
        go_wp2
        go_returns
        exact ⟨rfl, hbE⟩
    · obtain rfl : k = m := by omega
      have hsq := seq_bd gs k
      rw [HSQ.out] at hsq
      obtain ⟨hq0, hq1⟩ := hsq
      obtain ⟨hn0, hn1⟩ := hn
      obtain ⟨ak, hak⟩ : ∃ ak, nn % (sq + 2) = ak := ⟨_, rfl⟩
      have m0 : Int.tmod nn (sq + 2) = ak := by rw [Int.tmod_eq_emod_of_nonneg hn0]; exact hak
      have ak0 : 0 ≤ ak := by rw [← hak]; exact Int.emod_nonneg _ (by omega)
      have ak1 : ak < sq + 2 := by rw [← hak]; exact Int.emod_lt_of_pos _ (by omega)
      have w2' : IntKind.i64.wrap (sq + 2) = sq + 2 := by rw [IntKind.wrap_i64]; omega
      have wn : IntKind.i64.wrap nn = nn := by rw [IntKind.wrap_i64]; omega
      have wa : IntKind.i64.wrap ak = ak := by rw [IntKind.wrap_i64]; omega
      have z2 : (sq + 2 == 0) = false := by simp; omega
      have z2' : ¬ (sq + 2 = 0) := by omega
      have z2m : ¬ (sq + 2 = -1) := by omega
      have HL := Lib.hid (ins_len gs k)
      have HSZ := Lib.hid hP.bel.size
      have HAK := Lib.hid ak0
      have HK2 := Lib.hid hk2
      clear hak HP PU
      go_upto_region 18 with fail
      have S18 := Lib.hid (fun V (hV : Below wr.heap.size wr V) b4 n4 c4 (hB : EntsAt V (.slice b4 n4 c4) (baseM 1 1)) => by have := RE.out V (below_cc hV hP.bel).1 (cP (insOf gs k)) ⟨10, baseM 1 1⟩ ak ca cn cc pa pn pc b4 n4 c4 (hP.ents.below hV).ents (hP.inps.below hV).inps hB; rw [recv_1 gs hk2 ak0] at this; exact this)
      have s0 := hP.bk.cell (v := .int .i64 2) 0 rfl
      have s1 := hP.bk.cell (v := .int .i64 0) 1 rfl
      have s2 := hP.bk.cell (v := .int .i64 0) 2 rfl
      have s3 := hP.bk.cell (v := .int .i64 10) 3 rfl
      have s4 := hP.bk.cell (v := .slice ca cn cc) 4 rfl
      have s5 := hP.bk.cell (v := .int .i64 0) 5 rfl
      have s6 := hP.bk.cell (v := .slice pa pn pc) 6 rfl
      have sl := hP.bk.lt
      have s0m := fun p : Mutd (fun _ : Nat => False) wr => cell_mutd s0 (fun e => e) p
      have s1m := fun p : Mutd (fun _ : Nat => False) wr => cell_mutd s1 (fun e => e) p
      have s2m := fun p : Mutd (fun _ : Nat => False) wr => cell_mutd s2 (fun e => e) p
      have s3m := fun p : Mutd (fun _ : Nat => False) wr => cell_mutd s3 (fun e => e) p
      have s4m := fun p : Mutd (fun _ : Nat => False) wr => cell_mutd s4 (fun e => e) p
      have s5m := fun p : Mutd (fun _ : Nat => False) wr => cell_mutd s5 (fun e => e) p
      have s6m := fun p : Mutd (fun _ : Nat => False) wr => cell_mutd s6 (fun e => e) p
      have HK := Lib.hid (And.intro hP hRo)
      clear hP hRo
      refine wp_region_low3 (posts2 18 (aBase ⟨10, baseM 1 1⟩) 15 (aD ak ((insOf gs k).filter (leftB ak)))) (fun _ : Nat => False) [1, 3] (sto1 7 8) 9 (by kernel_rfl) (fun b hb => hb.elim) (sto1_inj 7 8) (by kernel_rfl) ?_
      simp only [List.take, List.drop]
      iterate 1 (refine low3_step (sto1_no (by decide)) (fun K hK => ?_); go_simp; first | (refine hK _ ?_; clear hK K) | (apply Exists.intro; refine ⟨fun p => ?_, hK _ ?_⟩; clear hK K))
      refine low3_call 18 #[.int .i64 10, .int .i64 1, .int .i64 1] (aBase ⟨10, baseM 1 1⟩) (sto1_no (by decide)) (by decide) (by rfl) (fun w => by go_simp) (by simp [posts2]) (fun V hV => by
        exact (base_fresh 10 1 1 V).mono fun e w' ⟨a, n, c, he, hF, hb⟩ => ⟨_, he, ⟨a, n, c, rfl, hF⟩, Mut.of_below hb⟩) ?_
      rintro v1 w1 w2 - ⟨b4, n4, c4, rfl, hF4⟩ -
      iterate 1 (refine low3_step (sto1_no (by decide)) (fun K hK => ?_); go_simp; first | (refine hK _ ?_; clear hK K) | (apply Exists.intro; refine ⟨fun p => ?_, hK _ ?_⟩; clear hK K))
      refine low3_call 15 #[.agg #[.int .i64 2, .int .i64 0, .int .i64 0, .int .i64 10, .slice ca cn cc, .int .i64 0, .slice pa pn pc], Wv 10 b4 n4 c4, .int .i64 ak] (aD ak ((insOf gs k).filter (leftB ak))) (sto1_no (by decide)) (by decide) (by rfl) (fun w => by go_simp) (by simp [posts2]) (fun V hV => by
        have hbV : Below wr.heap.size wr V := Mut.below hV.1 (Nat.le_refl _) (fun _ _ e => e)
        have hFV : Fresh w1.heap.size V (.slice b4 n4 c4) (baseM 1 1) := hF4.agree (fun b h1 h2 => (hV.2.2 (by decide)).1 b (.inr (.inr ⟨h1, h2⟩)))
        exact (S18.out V hbV b4 n4 c4 hFV.ents).mono fun e w' ⟨a, n, cap, pa, pn, pc, he, hFR, hb⟩ => ⟨_, he, ⟨a, n, cap, pa, pn, pc, rfl, hFR.1, hFR.2⟩, Mut.of_below hb⟩) ?_
      rintro v2 w3 w4 hV3 ⟨a16, n16, c16, pa16, pn16, pc16, rfl, hF6, hR6⟩ -
      have hz3 : wr.heap.size ≤ w3.heap.size := hV3.1.size
      clear hV3
      iterate 3 (refine low3_step (sto1_no (by decide)) (fun K hK => ?_); go_simp; first | (refine hK _ ?_; clear hK K) | (apply Exists.intro; refine ⟨fun p => ?_, hK _ ?_⟩; clear hK K))
      refine low3_new (.cells #[.int .i64 0, .int .i64 0, .int .i64 0, .int .i64 0, .slice none 0 0, .int .i64 0, .slice none 0 0] 29) (sto1_no (by decide)) (by rfl) (fun w => by go_simp; try rfl) ?_
      intro g16
      refine low3_sto 7 g16 #[.int .i64 0, .int .i64 0, .int .i64 0, .int .i64 0, .slice none 0 0, .int .i64 0, .slice none 0 0] #[.int .i64 2, .int .i64 0, .int .i64 0, .int .i64 10, .slice a16 n16 c16, .int .i64 ak, .slice pa16 pn16 pc16] 29 rfl (by rfl) ⟨⟨7, .data⟩, by simp, rfl, rfl⟩ rfl (fun w B => by
        have lt := B.lt
        have c_0 := B.cell (v := .int .i64 0) 0 rfl
        have f_0 := B.free 0
        have c_1 := B.cell (v := .int .i64 0) 1 rfl
        have f_1 := B.free 1
        have c_2 := B.cell (v := .int .i64 0) 2 rfl
        have f_2 := B.free 2
        have c_3 := B.cell (v := .int .i64 0) 3 rfl
        have f_3 := B.free 3
        have c_4 := B.cell (v := .slice none 0 0) 4 rfl
        have f_4 := B.free 4
        have c_5 := B.cell (v := .int .i64 0) 5 rfl
        have f_5 := B.free 5
        have c_6 := B.cell (v := .slice none 0 0) 6 rfl
        have f_6 := B.free 6
        go_simp
        show (((((((w.setCell ⟨g16, 0, none⟩ (.int .i64 2)).setCell ⟨g16, 1, none⟩ (.int .i64 0)).setCell ⟨g16, 2, none⟩ (.int .i64 0)).setCell ⟨g16, 3, none⟩ (.int .i64 10)).setCell ⟨g16, 4, none⟩ (.slice a16 n16 c16)).setCell ⟨g16, 5, none⟩ (.int .i64 ak)).setCell ⟨g16, 6, none⟩ (.slice pa16 pn16 pc16)) = putObj w g16 (.cells #[.int .i64 2, .int .i64 0, .int .i64 0, .int .i64 10, .slice a16 n16 c16, .int .i64 ak, .slice pa16 pn16 pc16] 29)
        rw [setCell_put B, setCell_put (putObj_heap B), putObj_twice, setCell_put (putObj_heap B), putObj_twice, setCell_put (putObj_heap B), putObj_twice, setCell_put (putObj_heap B), putObj_twice, setCell_put (putObj_heap B), putObj_twice, setCell_put (putObj_heap B), putObj_twice]; rfl) ?_
      refine low3_nil ?_
      intro W9 hC
      have hfr : Below wr.heap.size wr W9 := hC.fr.below (Nat.le_refl _) (fun _ _ e => e)
      obtain ⟨-, B8⟩ : _ ∧ Bk W9 g16 #[.int .i64 2, .int .i64 0, .int .i64 0, .int .i64 10, .slice a16 n16 c16, .int .i64 ak, .slice pa16 pn16 pc16] 29 := hC.made 7 g16 _ rfl
      have hF9 := (hF6.agree (fun b h1 h2 => hC.phi b (.inr (.inr ⟨h1, h2⟩)))).mono (Nat.le_trans HSZ.out hz3)
      have hR9 := (hR6.agree (fun b h1 h2 => hC.phi b (.inr (.inr ⟨h1, h2⟩)))).mono (Nat.le_trans HSZ.out hz3)
      clear hF6 hR6
      clear hC hF4 hz3 s0 s0m s1 s1m s2 s2m s3 s3m s4 s4m s5 s5m s6 s6m sl
      clear S18
      go_upto_region 19 with fail
      refine wp_name (fun V => PD w g16 a16 n16 c16 pa16 pn16 pc16 ak ((insOf gs k).filter (leftB ak)) V ∧ RowI w.heap.size V (.slice aa k ac) (insOf gs k)) ⟨⟨B8, hF9, hR9, (below_cc hfr HK.out.1.bel).1⟩, HK.out.2.below hfr⟩ ?_
      clear B8 hF9 hR9 hfr HK HSZ
      rintro W10 ⟨hD, hRo⟩
      have d0 := hD.bk.cell (v := .int .i64 2) 0 rfl
      have d1 := hD.bk.cell (v := .int .i64 0) 1 rfl
      have d2 := hD.bk.cell (v := .int .i64 0) 2 rfl
      have d3 := hD.bk.cell (v := .int .i64 10) 3 rfl
      have d4 := hD.bk.cell (v := .slice a16 n16 c16) 4 rfl
      have d5 := hD.bk.cell (v := .int .i64 ak) 5 rfl
      have d6 := hD.bk.cell (v := .slice pa16 pn16 pc16) 6 rfl
      have dl := hD.bk.lt
      have d0m := fun p : Mutd (fun _ : Nat => False) W10 => cell_mutd d0 (fun e => e) p
      have d1m := fun p : Mutd (fun _ : Nat => False) W10 => cell_mutd d1 (fun e => e) p
      have d2m := fun p : Mutd (fun _ : Nat => False) W10 => cell_mutd d2 (fun e => e) p
      have d3m := fun p : Mutd (fun _ : Nat => False) W10 => cell_mutd d3 (fun e => e) p
      have d4m := fun p : Mutd (fun _ : Nat => False) W10 => cell_mutd d4 (fun e => e) p
      have d5m := fun p : Mutd (fun _ : Nat => False) W10 => cell_mutd d5 (fun e => e) p
      have d6m := fun p : Mutd (fun _ : Nat => False) W10 => cell_mutd d6 (fun e => e) p
      have HK := Lib.hid (And.intro hD hRo)
      clear hD hRo
      refine wp_region_low3 (posts2 18 (aBase ⟨10, baseM 1 1⟩) 13 (aIs (.bool true))) (fun _ : Nat => False) [11, 12] noSto 14 (by kernel_rfl) (fun b hb => hb.elim) noSto_inj (by kernel_rfl) ?_
      simp only [List.take, List.drop]
      iterate 11 (refine low3_step noSto_no (fun K hK => ?_); go_simp; first | (refine hK _ ?_; clear hK K) | (apply Exists.intro; refine ⟨fun p => ?_, hK _ ?_⟩; clear hK K))
      refine low3_call 18 #[.int .i64 10, .int .i64 1, .int .i64 1] (aBase ⟨10, baseM 1 1⟩) noSto_no (by decide) (by rfl) (fun w => by go_simp) (by simp [posts2]) (fun V hV => by
        exact (base_fresh 10 1 1 V).mono fun e w' ⟨a, n, c, he, hF, hb⟩ => ⟨_, he, ⟨a, n, c, rfl, hF⟩, Mut.of_below hb⟩) ?_
      rintro v1 w5 w6 - ⟨b5, n5, c5, rfl, hF5⟩ -
      refine low3_call 13 #[.agg #[.int .i64 10, .slice a16 n16 c16], Wv 10 b5 n5 c5] (aIs (.bool true)) noSto_no (by decide) (by rfl) (fun w => by go_simp) (by simp [posts2]) (fun V hV => by
        have hbV : Below W10.heap.size W10 V := Mut.below hV.1 (Nat.le_refl _) (fun _ _ e => e)
        have hFV : Fresh w5.heap.size V (.slice b5 n5 c5) (baseM 1 1) := hF5.agree (fun b h1 h2 => (hV.2.2 (by decide)).1 b (.inr (.inr ⟨h1, h2⟩)))
        exact (sameW_any ⟨10, baseM 1 1⟩ a16 n16 c16 b5 n5 c5 V (HK.out.1.ents.below hbV).ents hFV.ents).mono fun e w' ⟨he, hb⟩ => ⟨_, he, rfl, Mut.of_below hb⟩) ?_
      rintro v2 w7 w8 - rfl -
      iterate 1 (refine low3_step noSto_no (fun K hK => ?_); go_simp; first | (refine hK _ ?_; clear hK K) | (apply Exists.intro; refine ⟨fun p => ?_, hK _ ?_⟩; clear hK K))
      refine low3_nil ?_
      intro W11 hC
      have hfr : Below W10.heap.size W10 W11 := hC.fr.below (Nat.le_refl _) (fun _ _ e => e)
      have HK2' := Lib.hid (And.intro (HK.out.1.below hfr) (HK.out.2.below hfr))
      clear hC hF5 hfr HK d0 d0m d1 d1m d2 d2m d3 d3m d4 d4m d5 d5m d6 d6m dl
      go_wp2
      have hpn := RowI.len HK2'.out.1.inps
      have HPN := Lib.hid hpn
      clear hpn
      go_loopw [18, 111] (fun v18 v111 wr => ∃ i cnt : Nat, (i ≤ k ∧ v111 = .int .i64 i) ∧ (Hid (cntL ak (insOf gs k) i = cnt) ∧ cnt ≤ 64 ∧ v18 = .int .i64 cnt) ∧ PD w g16 a16 n16 c16 pa16 pn16 pc16 ak ((insOf gs k).filter (leftB ak)) wr ∧ RowI w.heap.size wr (.slice aa k ac) (insOf gs k)) (fun _ v111 _ => k - (intOf v111).toNat)
      case atStart => exact ⟨0, 0, ⟨by omega, rfl⟩, ⟨Lib.hid (cnt_zero _ _), by omega, rfl⟩, HK2'.out.1, HK2'.out.2⟩
      case round =>
        clear HK2'
        obtain ⟨i, cnt, ⟨hi, rfl⟩, ⟨HC, hcl, rfl⟩, hD, hRo⟩ := hrel
        have HD := Lib.hid (And.intro hD hRo)
        by_cases hlt2 : i < k
        · obtain ⟨x, hx⟩ := at_lt (l := insOf gs k) (i := i) (by rw [HL.out]; exact hlt2)
          rcases hRo.inps with ⟨h1, h2⟩ | ⟨b2, o2, cap2, h1, hl2, hc2⟩
          · rw [h2] at hx; cases hx
          injection h1 with q1 q2 q3
          subst q1
          obtain ⟨x0, x1, x2, x3, x4, x5, x6, x7, x8, x9⟩ := hc2 i x hx
          have HX := Lib.hid hx
          by_cases hxs : x.s ≤ ak
          · have dl : decide (x.s ≤ ak) = true := decide_eq_true hxs
            have hsk : cntL ak (insOf gs k) (i + 1) = cnt := by rw [cnt_skip hx hxs]; exact HC.out
            have HSK := Lib.hid hsk
            clear hD hRo hx hc2 hl2 q2 q3 hsk
            go_wp2
            go_roundw
            case rel => exact ⟨i + 1, cnt, ⟨by omega, by go_num⟩, ⟨HSK, hcl, rfl⟩, HD.out.1.below ((Below.refl _ _).alloc (Nat.le_refl _) _), HD.out.2.below ((Below.refl _ _).alloc (Nat.le_refl _) _)⟩
            case measure => simp [intOf]; omega
          · have dl : decide (x.s ≤ ak) = false := decide_eq_false hxs
            obtain ⟨hst, hat⟩ := cnt_step hx (show ak < x.s by omega)
            rw [HC.out] at hst hat
            have hcp : cnt < pn16 := by rw [HPN.out]; exact (List.getElem?_eq_some_iff.1 hat).1
            have HST := Lib.hid hst
            have HAT := Lib.hid hat
            clear hD hRo hx hc2 hl2 q2 q3 hst hat
            go_upto_region 26 with fail
            refine wp_name (fun V => (PD w g16 a16 n16 c16 pa16 pn16 pc16 ak ((insOf gs k).filter (leftB ak)) V ∧ RowI w.heap.size V (.slice (some ⟨b2, o2, none⟩) k ac) (insOf gs k)) ∧ Bk V wr.heap.size #[.int .i64 x.c, .int .i64 x.s, .int .i64 x.t, .int .i64 x.mx, .int .i64 x.my, .bool x.fire, .int .i64 x.ax, .int .i64 x.ay, .int .i64 x.seen, .int .i64 x.part] 37) ⟨⟨HD.out.1.below ((Below.refl _ _).alloc (Nat.le_refl _) _), HD.out.2.below ((Below.refl _ _).alloc (Nat.le_refl _) _)⟩, Bk.made _ _ _⟩ ?_
            obtain ⟨g20, hg20⟩ : ∃ g, wr.heap.size = g := ⟨_, rfl⟩
            rw [hg20]
            clear hg20 HD x0 x1 x2 x3 x4 x5 x6 x7 x8 x9
            rintro W12 ⟨⟨hD, hRo⟩, BX⟩
            have HD := Lib.hid (And.intro hD hRo)
            rcases hD.inps.inps with ⟨h1, h2⟩ | ⟨b3, o3, cap3, h1, hl3, hc3⟩
            · have := HAT.out; rw [h2] at this; cases this
            injection h1 with q1 q2 q3
            subst q1
            obtain ⟨y0, y1, y2, y3, y4, y5, y6, y7, y8, y9⟩ := hc3 cnt x HAT.out
            replace y0 := cell_regrown y0
            replace y1 := cell_regrown y1
            replace y2 := cell_regrown y2
            replace y3 := cell_regrown y3
            replace y4 := cell_regrown y4
            replace y5 := cell_regrown y5
            replace y6 := cell_regrown y6
            replace y7 := cell_regrown y7
            replace y8 := cell_regrown y8
            replace y9 := cell_regrown y9
            have z0 := cell_regrown (BX.cell (v := .int .i64 x.c) 0 rfl)
            have z1 := cell_regrown (BX.cell (v := .int .i64 x.s) 1 rfl)
            have z2 := cell_regrown (BX.cell (v := .int .i64 x.t) 2 rfl)
            have z3 := cell_regrown (BX.cell (v := .int .i64 x.mx) 3 rfl)
            have z4 := cell_regrown (BX.cell (v := .int .i64 x.my) 4 rfl)
            have z5 := cell_regrown (BX.cell (v := .bool x.fire) 5 rfl)
            have z6 := cell_regrown (BX.cell (v := .int .i64 x.ax) 6 rfl)
            have z7 := cell_regrown (BX.cell (v := .int .i64 x.ay) 7 rfl)
            have z8 := cell_regrown (BX.cell (v := .int .i64 x.seen) 8 rfl)
            have z9 := cell_regrown (BX.cell (v := .int .i64 x.part) 9 rfl)
            have p6 := cell_regrown (hD.bk.cell (v := .slice (some ⟨b3, o3, none⟩) pn16 pc16) 6 rfl)
            have e1 : decide ((pn16 : Int) ≤ (cnt : Int)) = false := decide_eq_false (by omega)
            have e2 : decide ((cnt : Int) ≥ (pn16 : Int)) = false := decide_eq_false (by omega)
            have e3 : decide (pn16 ≤ cnt) = false := decide_eq_false (by omega)
            have e4 : (0 : Int) ≤ (cnt : Int) := by omega
            have e5 : (cnt : Int) < (pn16 : Int) := by omega
            have e6 : ((cnt : Int)).toNat = cnt := by omega
            have hne := neq_I x
            clear hD hRo hc3 hl3 q2 q3 BX
            refine wp_region_low2 noPosts 13 (by kernel_rfl) (by kernel_rfl) ?_
            simp only [List.take, List.drop]
            iterate 13 (refine low2_step (fun K hK => ?_); go_simp; first | (refine hK _ ?_; clear hK K) | (apply Exists.intro; refine ⟨fun p => ?_, hK _ ?_⟩; clear hK K))
            refine low2_nil ?_
            intro W13 hC
            have HD2 := Lib.hid (And.intro (HD.out.1.below hC.1) (HD.out.2.below hC.1))
            have wc : IntKind.i64.wrap ((cnt : Int) + 1) = ((cnt + 1 : Nat) : Int) := by rw [IntKind.wrap_i64]; omega
            have hcl2 : cnt + 1 ≤ 64 := by
              have := List.length_filter_le (leftB ak) (insOf gs k)
              rw [HL.out, ← HPN.out] at this
              have := HK2.out
              omega
            clear hC HD y0 y1 y2 y3 y4 y5 y6 y7 y8 y9 p6 e1 e2 e3 z0 z1 z2 z3 z4 z5 z6 z7 z8 z9
            go_wp2
            go_roundw
            case rel => exact ⟨i + 1, cnt + 1, ⟨by omega, by go_num⟩, ⟨HST, hcl2, by first | rfl | (rw [wc])⟩, HD2.out.1, HD2.out.2⟩
            case measure => simp [intOf]; omega
        · obtain rfl : i = k := by omega
          have hca := cnt_all ak (insOf gs i)
          rw [HL.out, HC.out, ← HPN.out] at hca
          obtain rfl : cnt = pn16 := hca
          have HSZ := Lib.hid hD.bel.size
          have wm : IntKind.i64.wrap (ak - 1) = ak - 1 := by rw [IntKind.wrap_i64]; omega
          clear hD hRo HC HL HPN HSQ HMM hk hk2 hlt hlt2 hq0 hq1 hn0 hn1 m0 ak1 wn wa z2 z2' z2m hm1 hm2 hmc hnm hi hcl hs1 w2' HBy hz0 hz1 hz2 HIi
          go_upto_region 30 with fail
          have hD := HD.out.1
          have S30 := Lib.hid (fun V (hV : Below wr.heap.size wr V) b4 n4 c4 (hB : EntsAt V (.slice b4 n4 c4) (baseM 1 1)) => by have := RE.out V (below_cc hV hD.bel).1 (dP ak ((insOf gs i).filter (leftB ak))) ⟨10, baseM 1 1⟩ ak a16 n16 c16 pa16 cnt pc16 b4 n4 c4 (hD.ents.below hV).ents (hD.inps.below hV).inps hB; rw [recv_2 gs HK2.out HAK.out] at this; exact this)
          have s0 := hD.bk.cell (v := .int .i64 2) 0 rfl
          have s1 := hD.bk.cell (v := .int .i64 0) 1 rfl
          have s2 := hD.bk.cell (v := .int .i64 0) 2 rfl
          have s3 := hD.bk.cell (v := .int .i64 10) 3 rfl
          have s4 := hD.bk.cell (v := .slice a16 n16 c16) 4 rfl
          have s5 := hD.bk.cell (v := .int .i64 ak) 5 rfl
          have s6 := hD.bk.cell (v := .slice pa16 cnt pc16) 6 rfl
          have sl := hD.bk.lt
          have s0m := fun p : Mutd (fun _ : Nat => False) wr => cell_mutd s0 (fun e => e) p
          have s1m := fun p : Mutd (fun _ : Nat => False) wr => cell_mutd s1 (fun e => e) p
          have s2m := fun p : Mutd (fun _ : Nat => False) wr => cell_mutd s2 (fun e => e) p
          have s3m := fun p : Mutd (fun _ : Nat => False) wr => cell_mutd s3 (fun e => e) p
          have s4m := fun p : Mutd (fun _ : Nat => False) wr => cell_mutd s4 (fun e => e) p
          have s5m := fun p : Mutd (fun _ : Nat => False) wr => cell_mutd s5 (fun e => e) p
          have s6m := fun p : Mutd (fun _ : Nat => False) wr => cell_mutd s6 (fun e => e) p
          have HK := Lib.hid (hD)
          clear hD HD
          refine wp_region_low3 (posts2 18 (aBase ⟨10, baseM 1 1⟩) 15 (aD ak ((insOf gs i).filter (leftB ak)))) (fun _ : Nat => False) [1, 3] (sto1 7 8) 9 (by kernel_rfl) (fun b hb => hb.elim) (sto1_inj 7 8) (by kernel_rfl) ?_
          simp only [List.take, List.drop]
          iterate 1 (refine low3_step (sto1_no (by decide)) (fun K hK => ?_); go_simp; first | (refine hK _ ?_; clear hK K) | (apply Exists.intro; refine ⟨fun p => ?_, hK _ ?_⟩; clear hK K))
          refine low3_call 18 #[.int .i64 10, .int .i64 1, .int .i64 1] (aBase ⟨10, baseM 1 1⟩) (sto1_no (by decide)) (by decide) (by rfl) (fun w => by go_simp) (by simp [posts2]) (fun V hV => by
            exact (base_fresh 10 1 1 V).mono fun e w' ⟨a, n, c, he, hF, hb⟩ => ⟨_, he, ⟨a, n, c, rfl, hF⟩, Mut.of_below hb⟩) ?_
          rintro v1 w1 w2 - ⟨b4, n4, c4, rfl, hF4⟩ -
          iterate 1 (refine low3_step (sto1_no (by decide)) (fun K hK => ?_); go_simp; first | (refine hK _ ?_; clear hK K) | (apply Exists.intro; refine ⟨fun p => ?_, hK _ ?_⟩; clear hK K))
          refine low3_call 15 #[.agg #[.int .i64 2, .int .i64 0, .int .i64 0, .int .i64 10, .slice a16 n16 c16, .int .i64 ak, .slice pa16 cnt pc16], Wv 10 b4 n4 c4, .int .i64 ak] (aD ak ((insOf gs i).filter (leftB ak))) (sto1_no (by decide)) (by decide) (by rfl) (fun w => by go_simp) (by simp [posts2]) (fun V hV => by
            have hbV : Below wr.heap.size wr V := Mut.below hV.1 (Nat.le_refl _) (fun _ _ e => e)
            have hFV : Fresh w1.heap.size V (.slice b4 n4 c4) (baseM 1 1) := hF4.agree (fun b h1 h2 => (hV.2.2 (by decide)).1 b (.inr (.inr ⟨h1, h2⟩)))
            exact (S30.out V hbV b4 n4 c4 hFV.ents).mono fun e w' ⟨a, n, cap, pa, pn, pc, he, hFR, hb⟩ => ⟨_, he, ⟨a, n, cap, pa, pn, pc, rfl, hFR.1, hFR.2⟩, Mut.of_below hb⟩) ?_
          rintro v2 w3 w4 hV3 ⟨a21, n21, c21, pa21, pn21, pc21, rfl, hF6, hR6⟩ -
          have hz3 : wr.heap.size ≤ w3.heap.size := hV3.1.size
          clear hV3
          iterate 3 (refine low3_step (sto1_no (by decide)) (fun K hK => ?_); go_simp; first | (refine hK _ ?_; clear hK K) | (apply Exists.intro; refine ⟨fun p => ?_, hK _ ?_⟩; clear hK K))
          refine low3_new (.cells #[.int .i64 0, .int .i64 0, .int .i64 0, .int .i64 0, .slice none 0 0, .int .i64 0, .slice none 0 0] 29) (sto1_no (by decide)) (by rfl) (fun w => by go_simp; try rfl) ?_
          intro g21
          refine low3_sto 7 g21 #[.int .i64 0, .int .i64 0, .int .i64 0, .int .i64 0, .slice none 0 0, .int .i64 0, .slice none 0 0] #[.int .i64 2, .int .i64 0, .int .i64 0, .int .i64 10, .slice a21 n21 c21, .int .i64 ak, .slice pa21 pn21 pc21] 29 rfl (by rfl) ⟨⟨7, .data⟩, by simp, rfl, rfl⟩ rfl (fun w B => by
            have lt := B.lt
            have c_0 := B.cell (v := .int .i64 0) 0 rfl
            have f_0 := B.free 0
            have c_1 := B.cell (v := .int .i64 0) 1 rfl
            have f_1 := B.free 1
            have c_2 := B.cell (v := .int .i64 0) 2 rfl
            have f_2 := B.free 2
            have c_3 := B.cell (v := .int .i64 0) 3 rfl
            have f_3 := B.free 3
            have c_4 := B.cell (v := .slice none 0 0) 4 rfl
            have f_4 := B.free 4
            have c_5 := B.cell (v := .int .i64 0) 5 rfl
            have f_5 := B.free 5
            have c_6 := B.cell (v := .slice none 0 0) 6 rfl
            have f_6 := B.free 6
            go_simp
            show (((((((w.setCell ⟨g21, 0, none⟩ (.int .i64 2)).setCell ⟨g21, 1, none⟩ (.int .i64 0)).setCell ⟨g21, 2, none⟩ (.int .i64 0)).setCell ⟨g21, 3, none⟩ (.int .i64 10)).setCell ⟨g21, 4, none⟩ (.slice a21 n21 c21)).setCell ⟨g21, 5, none⟩ (.int .i64 ak)).setCell ⟨g21, 6, none⟩ (.slice pa21 pn21 pc21)) = putObj w g21 (.cells #[.int .i64 2, .int .i64 0, .int .i64 0, .int .i64 10, .slice a21 n21 c21, .int .i64 ak, .slice pa21 pn21 pc21] 29)
            rw [setCell_put B, setCell_put (putObj_heap B), putObj_twice, setCell_put (putObj_heap B), putObj_twice, setCell_put (putObj_heap B), putObj_twice, setCell_put (putObj_heap B), putObj_twice, setCell_put (putObj_heap B), putObj_twice, setCell_put (putObj_heap B), putObj_twice]; rfl) ?_
          refine low3_nil ?_
          intro W30 hC
          have hfr : Below wr.heap.size wr W30 := hC.fr.below (Nat.le_refl _) (fun _ _ e => e)
          obtain ⟨-, B8⟩ : _ ∧ Bk W30 g21 #[.int .i64 2, .int .i64 0, .int .i64 0, .int .i64 10, .slice a21 n21 c21, .int .i64 ak, .slice pa21 pn21 pc21] 29 := hC.made 7 g21 _ rfl
          have hF9 := (hF6.agree (fun b h1 h2 => hC.phi b (.inr (.inr ⟨h1, h2⟩)))).mono (Nat.le_trans HSZ.out hz3)
          have hR9 := (hR6.agree (fun b h1 h2 => hC.phi b (.inr (.inr ⟨h1, h2⟩)))).mono (Nat.le_trans HSZ.out hz3)
          clear hF6 hR6
          clear hC hF4 hz3 s0 s0m s1 s1m s2 s2m s3 s3m s4 s4m s5 s5m s6 s6m sl
          clear S30
          go_upto_region 31 with fail
          refine wp_name (fun V => PD w g16 a16 n16 c16 pa16 cnt pc16 ak ((insOf gs i).filter (leftB ak)) V ∧ PD w g21 a21 n21 c21 pa21 pn21 pc21 ak ((insOf gs i).filter (leftB ak)) V) ⟨HK.out.below hfr, ⟨B8, hF9, hR9, (below_cc hfr HK.out.bel).1⟩⟩ ?_
          clear B8 hF9 hR9 hfr HK HSZ
          rintro W31 ⟨hD, hN⟩
          have HSZ := Lib.hid hD.bel.size
          have S31 := Lib.hid (fun V (hV : Below W31.heap.size W31 V) b4 n4 c4 (hB : EntsAt V (.slice b4 n4 c4) (baseM 1 1)) => by have := RE.out V (below_cc hV hD.bel).1 (dP ak ((insOf gs i).filter (leftB ak))) ⟨9, baseM 1 1⟩ ak a16 n16 c16 pa16 cnt pc16 b4 n4 c4 (hD.ents.below hV).ents (hD.inps.below hV).inps hB; rw [recv_3 gs HK2.out HAK.out] at this; exact this)
          have s0 := hD.bk.cell (v := .int .i64 2) 0 rfl
          have s1 := hD.bk.cell (v := .int .i64 0) 1 rfl
          have s2 := hD.bk.cell (v := .int .i64 0) 2 rfl
          have s3 := hD.bk.cell (v := .int .i64 10) 3 rfl
          have s4 := hD.bk.cell (v := .slice a16 n16 c16) 4 rfl
          have s5 := hD.bk.cell (v := .int .i64 ak) 5 rfl
          have s6 := hD.bk.cell (v := .slice pa16 cnt pc16) 6 rfl
          have sl := hD.bk.lt
          have s0m := fun p : Mutd (fun _ : Nat => False) W31 => cell_mutd s0 (fun e => e) p
          have s1m := fun p : Mutd (fun _ : Nat => False) W31 => cell_mutd s1 (fun e => e) p
          have s2m := fun p : Mutd (fun _ : Nat => False) W31 => cell_mutd s2 (fun e => e) p
          have s3m := fun p : Mutd (fun _ : Nat => False) W31 => cell_mutd s3 (fun e => e) p
          have s4m := fun p : Mutd (fun _ : Nat => False) W31 => cell_mutd s4 (fun e => e) p
          have s5m := fun p : Mutd (fun _ : Nat => False) W31 => cell_mutd s5 (fun e => e) p
          have s6m := fun p : Mutd (fun _ : Nat => False) W31 => cell_mutd s6 (fun e => e) p
          have HK := Lib.hid (And.intro hD hN)
          clear hD hN
          refine wp_region_low3 (posts2 18 (aBase ⟨9, baseM 1 1⟩) 15 (aZ 270)) (fun _ : Nat => False) [1, 3] (sto1 7 8) 9 (by kernel_rfl) (fun b hb => hb.elim) (sto1_inj 7 8) (by kernel_rfl) ?_
          simp only [List.take, List.drop]
          iterate 1 (refine low3_step (sto1_no (by decide)) (fun K hK => ?_); go_simp; first | (refine hK _ ?_; clear hK K) | (apply Exists.intro; refine ⟨fun p => ?_, hK _ ?_⟩; clear hK K))
          refine low3_call 18 #[.int .i64 9, .int .i64 1, .int .i64 1] (aBase ⟨9, baseM 1 1⟩) (sto1_no (by decide)) (by decide) (by rfl) (fun w => by go_simp) (by simp [posts2]) (fun V hV => by
            exact (base_fresh 9 1 1 V).mono fun e w' ⟨a, n, c, he, hF, hb⟩ => ⟨_, he, ⟨a, n, c, rfl, hF⟩, Mut.of_below hb⟩) ?_
          rintro v1 w1 w2 - ⟨b4, n4, c4, rfl, hF4⟩ -
          iterate 1 (refine low3_step (sto1_no (by decide)) (fun K hK => ?_); go_simp; first | (refine hK _ ?_; clear hK K) | (apply Exists.intro; refine ⟨fun p => ?_, hK _ ?_⟩; clear hK K))
          refine low3_call 15 #[.agg #[.int .i64 2, .int .i64 0, .int .i64 0, .int .i64 10, .slice a16 n16 c16, .int .i64 ak, .slice pa16 cnt pc16], Wv 9 b4 n4 c4, .int .i64 ak] (aZ 270) (sto1_no (by decide)) (by decide) (by rfl) (fun w => by go_simp) (by simp [posts2]) (fun V hV => by
            have hbV : Below W31.heap.size W31 V := Mut.below hV.1 (Nat.le_refl _) (fun _ _ e => e)
            have hFV : Fresh w1.heap.size V (.slice b4 n4 c4) (baseM 1 1) := hF4.agree (fun b h1 h2 => (hV.2.2 (by decide)).1 b (.inr (.inr ⟨h1, h2⟩)))
            exact (S31.out V hbV b4 n4 c4 hFV.ents).mono fun e w' ⟨a, n, cap, pa, pn, pc, he, hFR, hb⟩ => ⟨_, he, ⟨a, n, cap, pa, pn, pc, rfl⟩, Mut.of_below hb⟩) ?_
          rintro v2 w3 w4 hV3 ⟨a62, n62, c62, pa62, pn62, pc62, rfl⟩ -
          have hz3 : W31.heap.size ≤ w3.heap.size := hV3.1.size
          clear hV3
          iterate 3 (refine low3_step (sto1_no (by decide)) (fun K hK => ?_); go_simp; first | (refine hK _ ?_; clear hK K) | (apply Exists.intro; refine ⟨fun p => ?_, hK _ ?_⟩; clear hK K))
          refine low3_new (.cells #[.int .i64 0, .int .i64 0, .int .i64 0, .int .i64 0, .slice none 0 0, .int .i64 0, .slice none 0 0] 29) (sto1_no (by decide)) (by rfl) (fun w => by go_simp; try rfl) ?_
          intro g62
          refine low3_sto 7 g62 #[.int .i64 0, .int .i64 0, .int .i64 0, .int .i64 0, .slice none 0 0, .int .i64 0, .slice none 0 0] #[.int .i64 0, .int .i64 0, .int .i64 0, .int .i64 0, .slice a62 n62 c62, .int .i64 0, .slice pa62 pn62 pc62] 29 rfl (by rfl) ⟨⟨7, .data⟩, by simp, rfl, rfl⟩ rfl (fun w B => by
            have lt := B.lt
            have c_0 := B.cell (v := .int .i64 0) 0 rfl
            have f_0 := B.free 0
            have c_1 := B.cell (v := .int .i64 0) 1 rfl
            have f_1 := B.free 1
            have c_2 := B.cell (v := .int .i64 0) 2 rfl
            have f_2 := B.free 2
            have c_3 := B.cell (v := .int .i64 0) 3 rfl
            have f_3 := B.free 3
            have c_4 := B.cell (v := .slice none 0 0) 4 rfl
            have f_4 := B.free 4
            have c_5 := B.cell (v := .int .i64 0) 5 rfl
            have f_5 := B.free 5
            have c_6 := B.cell (v := .slice none 0 0) 6 rfl
            have f_6 := B.free 6
            go_simp
            show (((((((w.setCell ⟨g62, 0, none⟩ (.int .i64 0)).setCell ⟨g62, 1, none⟩ (.int .i64 0)).setCell ⟨g62, 2, none⟩ (.int .i64 0)).setCell ⟨g62, 3, none⟩ (.int .i64 0)).setCell ⟨g62, 4, none⟩ (.slice a62 n62 c62)).setCell ⟨g62, 5, none⟩ (.int .i64 0)).setCell ⟨g62, 6, none⟩ (.slice pa62 pn62 pc62)) = putObj w g62 (.cells #[.int .i64 0, .int .i64 0, .int .i64 0, .int .i64 0, .slice a62 n62 c62, .int .i64 0, .slice pa62 pn62 pc62] 29)
            rw [setCell_put B, setCell_put (putObj_heap B), putObj_twice, setCell_put (putObj_heap B), putObj_twice, setCell_put (putObj_heap B), putObj_twice, setCell_put (putObj_heap B), putObj_twice, setCell_put (putObj_heap B), putObj_twice, setCell_put (putObj_heap B), putObj_twice]; rfl) ?_
          refine low3_nil ?_
          intro W31b hC
          have hfr : Below W31.heap.size W31 W31b := hC.fr.below (Nat.le_refl _) (fun _ _ e => e)
          clear hC hF4 hz3 s0 s0m s1 s1m s2 s2m s3 s3m s4 s4m s5 s5m s6 s6m sl
          clear S31
          go_upto_region 32 with fail
          refine wp_name (fun V => PD w g16 a16 n16 c16 pa16 cnt pc16 ak ((insOf gs i).filter (leftB ak)) V ∧ PD w g21 a21 n21 c21 pa21 pn21 pc21 ak ((insOf gs i).filter (leftB ak)) V) ⟨HK.out.1.below hfr, HK.out.2.below hfr⟩ ?_
          clear hfr HK HSZ
          rintro W32 ⟨hD, hN⟩
          have HSZ := Lib.hid hD.bel.size
          have S32 := Lib.hid (fun V (hV : Below W32.heap.size W32 V) b4 n4 c4 (hB : EntsAt V (.slice b4 n4 c4) (baseM 1 1)) => by have := RE.out V (below_cc hV hD.bel).1 (dP ak ((insOf gs i).filter (leftB ak))) ⟨10, baseM 1 1⟩ (ak - 1) a16 n16 c16 pa16 cnt pc16 b4 n4 c4 (hD.ents.below hV).ents (hD.inps.below hV).inps hB; rw [recv_4 gs HK2.out HAK.out] at this; exact this)
          have s0 := hD.bk.cell (v := .int .i64 2) 0 rfl
          have s1 := hD.bk.cell (v := .int .i64 0) 1 rfl
          have s2 := hD.bk.cell (v := .int .i64 0) 2 rfl
          have s3 := hD.bk.cell (v := .int .i64 10) 3 rfl
          have s4 := hD.bk.cell (v := .slice a16 n16 c16) 4 rfl
          have s5 := hD.bk.cell (v := .int .i64 ak) 5 rfl
          have s6 := hD.bk.cell (v := .slice pa16 cnt pc16) 6 rfl
          have sl := hD.bk.lt
          have s0m := fun p : Mutd (fun _ : Nat => False) W32 => cell_mutd s0 (fun e => e) p
          have s1m := fun p : Mutd (fun _ : Nat => False) W32 => cell_mutd s1 (fun e => e) p
          have s2m := fun p : Mutd (fun _ : Nat => False) W32 => cell_mutd s2 (fun e => e) p
          have s3m := fun p : Mutd (fun _ : Nat => False) W32 => cell_mutd s3 (fun e => e) p
          have s4m := fun p : Mutd (fun _ : Nat => False) W32 => cell_mutd s4 (fun e => e) p
          have s5m := fun p : Mutd (fun _ : Nat => False) W32 => cell_mutd s5 (fun e => e) p
          have s6m := fun p : Mutd (fun _ : Nat => False) W32 => cell_mutd s6 (fun e => e) p
          have HK := Lib.hid (And.intro hD hN)
          clear hD hN
          refine wp_region_low3 (posts2 18 (aBase ⟨10, baseM 1 1⟩) 15 (aZ 270)) (fun _ : Nat => False) [1, 4] (sto1 8 9) 10 (by kernel_rfl) (fun b hb => hb.elim) (sto1_inj 8 9) (by kernel_rfl) ?_
          simp only [List.take, List.drop]
          iterate 1 (refine low3_step (sto1_no (by decide)) (fun K hK => ?_); go_simp; first | (refine hK _ ?_; clear hK K) | (apply Exists.intro; refine ⟨fun p => ?_, hK _ ?_⟩; clear hK K))
          refine low3_call 18 #[.int .i64 10, .int .i64 1, .int .i64 1] (aBase ⟨10, baseM 1 1⟩) (sto1_no (by decide)) (by decide) (by rfl) (fun w => by go_simp) (by simp [posts2]) (fun V hV => by
            exact (base_fresh 10 1 1 V).mono fun e w' ⟨a, n, c, he, hF, hb⟩ => ⟨_, he, ⟨a, n, c, rfl, hF⟩, Mut.of_below hb⟩) ?_
          rintro v1 w1 w2 - ⟨b4, n4, c4, rfl, hF4⟩ -
          iterate 2 (refine low3_step (sto1_no (by decide)) (fun K hK => ?_); go_simp; first | (refine hK _ ?_; clear hK K) | (apply Exists.intro; refine ⟨fun p => ?_, hK _ ?_⟩; clear hK K))
          refine low3_call 15 #[.agg #[.int .i64 2, .int .i64 0, .int .i64 0, .int .i64 10, .slice a16 n16 c16, .int .i64 ak, .slice pa16 cnt pc16], Wv 10 b4 n4 c4, .int .i64 (ak - 1)] (aZ 270) (sto1_no (by decide)) (by decide) (by rfl) (fun w => by go_simp) (by simp [posts2]) (fun V hV => by
            have hbV : Below W32.heap.size W32 V := Mut.below hV.1 (Nat.le_refl _) (fun _ _ e => e)
            have hFV : Fresh w1.heap.size V (.slice b4 n4 c4) (baseM 1 1) := hF4.agree (fun b h1 h2 => (hV.2.2 (by decide)).1 b (.inr (.inr ⟨h1, h2⟩)))
            exact (S32.out V hbV b4 n4 c4 hFV.ents).mono fun e w' ⟨a, n, cap, pa, pn, pc, he, hFR, hb⟩ => ⟨_, he, ⟨a, n, cap, pa, pn, pc, rfl⟩, Mut.of_below hb⟩) ?_
          rintro v2 w3 w4 hV3 ⟨a64, n64, c64, pa64, pn64, pc64, rfl⟩ -
          have hz3 : W32.heap.size ≤ w3.heap.size := hV3.1.size
          clear hV3
          iterate 3 (refine low3_step (sto1_no (by decide)) (fun K hK => ?_); go_simp; first | (refine hK _ ?_; clear hK K) | (apply Exists.intro; refine ⟨fun p => ?_, hK _ ?_⟩; clear hK K))
          refine low3_new (.cells #[.int .i64 0, .int .i64 0, .int .i64 0, .int .i64 0, .slice none 0 0, .int .i64 0, .slice none 0 0] 29) (sto1_no (by decide)) (by rfl) (fun w => by go_simp; try rfl) ?_
          intro g64
          refine low3_sto 8 g64 #[.int .i64 0, .int .i64 0, .int .i64 0, .int .i64 0, .slice none 0 0, .int .i64 0, .slice none 0 0] #[.int .i64 0, .int .i64 0, .int .i64 0, .int .i64 0, .slice a64 n64 c64, .int .i64 0, .slice pa64 pn64 pc64] 29 rfl (by rfl) ⟨⟨8, .data⟩, by simp, rfl, rfl⟩ rfl (fun w B => by
            have lt := B.lt
            have c_0 := B.cell (v := .int .i64 0) 0 rfl
            have f_0 := B.free 0
            have c_1 := B.cell (v := .int .i64 0) 1 rfl
            have f_1 := B.free 1
            have c_2 := B.cell (v := .int .i64 0) 2 rfl
            have f_2 := B.free 2
            have c_3 := B.cell (v := .int .i64 0) 3 rfl
            have f_3 := B.free 3
            have c_4 := B.cell (v := .slice none 0 0) 4 rfl
            have f_4 := B.free 4
            have c_5 := B.cell (v := .int .i64 0) 5 rfl
            have f_5 := B.free 5
            have c_6 := B.cell (v := .slice none 0 0) 6 rfl
            have f_6 := B.free 6
            go_simp
            show (((((((w.setCell ⟨g64, 0, none⟩ (.int .i64 0)).setCell ⟨g64, 1, none⟩ (.int .i64 0)).setCell ⟨g64, 2, none⟩ (.int .i64 0)).setCell ⟨g64, 3, none⟩ (.int .i64 0)).setCell ⟨g64, 4, none⟩ (.slice a64 n64 c64)).setCell ⟨g64, 5, none⟩ (.int .i64 0)).setCell ⟨g64, 6, none⟩ (.slice pa64 pn64 pc64)) = putObj w g64 (.cells #[.int .i64 0, .int .i64 0, .int .i64 0, .int .i64 0, .slice a64 n64 c64, .int .i64 0, .slice pa64 pn64 pc64] 29)
            rw [setCell_put B, setCell_put (putObj_heap B), putObj_twice, setCell_put (putObj_heap B), putObj_twice, setCell_put (putObj_heap B), putObj_twice, setCell_put (putObj_heap B), putObj_twice, setCell_put (putObj_heap B), putObj_twice, setCell_put (putObj_heap B), putObj_twice]; rfl) ?_
          refine low3_nil ?_
          intro W32b hC
          have hfr : Below W32.heap.size W32 W32b := hC.fr.below (Nat.le_refl _) (fun _ _ e => e)
          clear hC hF4 hz3 s0 s0m s1 s1m s2 s2m s3 s3m s4 s4m s5 s5m s6 s6m sl
          clear S32
          go_upto_region 33 with fail
          refine wp_name (fun V => PD w g16 a16 n16 c16 pa16 cnt pc16 ak ((insOf gs i).filter (leftB ak)) V ∧ PD w g21 a21 n21 c21 pa21 pn21 pc21 ak ((insOf gs i).filter (leftB ak)) V) ⟨HK.out.1.below hfr, HK.out.2.below hfr⟩ ?_
          clear hfr HK HSZ
          rintro W33 ⟨hD, hN⟩
          have HSZ := Lib.hid hD.bel.size
          have s0 := hD.bk.cell (v := .int .i64 2) 0 rfl
          have s1 := hD.bk.cell (v := .int .i64 0) 1 rfl
          have s2 := hD.bk.cell (v := .int .i64 0) 2 rfl
          have s3 := hD.bk.cell (v := .int .i64 10) 3 rfl
          have s4 := hD.bk.cell (v := .slice a16 n16 c16) 4 rfl
          have s5 := hD.bk.cell (v := .int .i64 ak) 5 rfl
          have s6 := hD.bk.cell (v := .slice pa16 cnt pc16) 6 rfl
          have sl := hD.bk.lt
          have t0 := hN.bk.cell (v := .int .i64 2) 0 rfl
          have t1 := hN.bk.cell (v := .int .i64 0) 1 rfl
          have t2 := hN.bk.cell (v := .int .i64 0) 2 rfl
          have t3 := hN.bk.cell (v := .int .i64 10) 3 rfl
          have t4 := hN.bk.cell (v := .slice a21 n21 c21) 4 rfl
          have t5 := hN.bk.cell (v := .int .i64 ak) 5 rfl
          have t6 := hN.bk.cell (v := .slice pa21 pn21 pc21) 6 rfl
          have tl := hN.bk.lt
          have SC := Lib.hid (sameC_any (dP ak ((insOf gs i).filter (leftB ak))) a21 n21 c21 pa21 pn21 pc21 a16 n16 c16 pa16 cnt pc16 W33 hN.ents.ents hD.ents.ents hN.inps.inps hD.inps.inps)
          have HB := Lib.hid hD.bel
          clear hD hN
          go_wp2_with fail
          refine SC.out.mono ?_
          rintro e V9 ⟨rfl, hb9⟩
          obtain ⟨hb, hs⟩ := below_cc hb9 HB.out
          clear hb9 SC HB s0 s1 s2 s3 s4 s5 s6 sl t0 t1 t2 t3 t4 t5 t6 tl
          go_wp2_with fail
          refine (AWK.out _ hb).mono ?_
          rintro e VA ⟨rfl, hbA⟩
          have hbE := (below_cc hbA hb).1
          clear hbA
          go_wp2
          go_returns
          exact ⟨rfl, hbE⟩
end Go.Proofs.YtlcjkomfjgddeaaGreatDoor
