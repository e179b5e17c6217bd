/- What the walk of QuantSends rests on: no Writer and no Reader, a Reader that runs short, cut bytes, the bits that were sent, Put of any grid. -/
import Derived.Test.YtghfggfgndgkjaaGreatDoorBits3
import Derived.Test.YtghfggfgndgkjaaGreatDoorRef21
import Derived.Test.YtghfggfgndgkjaaGreatDoorAwake21
import Derived.OpenShut
set_option linter.unusedVariables false
set_option linter.unusedSimpArgs false
namespace Go.Proofs.YtghfggfgndgkjaaGreatDoor
open Go.RowKit
set_option maxRecDepth 100000
attribute [local go_sem] opLow opUpon opLow2 opUpon2 opLow3

theorem rget_nil (k : Int) (w : World) :
    Calls Tryz.prog 36 #[.pointer none, .int .i64 k] w fun e w' => e = .returned (.tuple #[.int .u64 0, .int .i64 1]) ∧ Below w.heap.size w w' := by
  go_enter Tryz.func36, Tryz.ntmps36
  go_wp2
  go_returns
  exact ⟨rfl, by go_grown⟩
theorem wput_nil (n k : Int) (w : World) :
    Calls Tryz.prog 28 #[.pointer none, .int .u64 n, .int .i64 k] w fun e w' => e = .returned (.int .i64 1) ∧ Below w.heap.size w w' := by
  go_enter Tryz.func28, Tryz.ntmps28
  go_wp2
  go_returns
  exact ⟨rfl, by go_grown⟩
theorem gget_nil (lo hi b : Int) (hg : GV lo hi b) (w : World) :
    Calls Tryz.prog 37 #[G lo hi b, .pointer none] w fun e w' => e = .returned (.tuple #[.int .i64 0, .int .i64 1]) ∧ Below w.heap.size w w' := by
  have HG := Lib.hid hg
  clear hg
  go_enter Tryz.func37, Tryz.ntmps37
  go_wp2_with fail
  have B0 := Bk.made w #[.int .i64 lo, .int .i64 hi, .int .i64 b] 23
  have b0 : Below w.heap.size w (w.alloc (.cells #[.int .i64 lo, .int .i64 hi, .int .i64 b] 23)) := by go_grown
  refine (valid_yes lo hi b HG.out _).mono ?_
  rintro e V1 ⟨rfl, hb⟩
  have T1 := Lib.hid (b0.trans (hb.mono b0.size))
  have k2 := (B0.below hb).cell (v := .int .i64 b) 2 rfl
  have kl := (B0.below hb).lt
  clear hb B0 b0
  go_wp2_with fail
  refine (rget_nil b _).mono ?_
  rintro e V2 ⟨rfl, hb⟩
  have T2 := Lib.hid (T1.out.trans (hb.mono T1.out.size))
  clear hb T1 k2 kl
  go_wp2
  go_returns
  exact ⟨rfl, T2.out⟩
theorem gput_nil (lo hi b x : Int) (hg : GV lo hi b) (w : World) :
    Calls Tryz.prog 29 #[G lo hi b, .pointer none, .int .i64 x] w fun e w' => e = .returned (.int .i64 1) ∧ Below w.heap.size w w' := by
  have HG := Lib.hid hg
  clear hg
  go_enter Tryz.func29, Tryz.ntmps29
  go_wp2_with fail
  have B0 := Bk.made w #[.int .i64 lo, .int .i64 hi, .int .i64 b] 23
  have b0 : Below w.heap.size w (w.alloc (.cells #[.int .i64 lo, .int .i64 hi, .int .i64 b] 23)) := by go_grown
  refine (index_any lo hi b x HG.out _).mono ?_
  rintro e V1 ⟨rfl, hb⟩
  have T1 := Lib.hid (b0.trans (hb.mono b0.size))
  have k2 := (B0.below hb).cell (v := .int .i64 b) 2 rfl
  have kl := (B0.below hb).lt
  clear hb B0 b0
  go_wp2_with fail
  refine (wput_nil _ b _).mono ?_
  rintro e V2 ⟨rfl, hb⟩
  have T2 := Lib.hid (T1.out.trans (hb.mono T1.out.size))
  clear hb T1 k2 kl
  go_wp2
  go_returns
  exact ⟨rfl, T2.out⟩
theorem pput_nil (a b c d e' f x y : Int) (h1 : GV a b c) (h2 : GV d e' f) (w : World) :
    Calls Tryz.prog 30 #[PL a b c d e' f, .pointer none, .agg #[.int .i64 x, .int .i64 y]] w fun e w' => e = .returned (.int .i64 1) ∧ Below w.heap.size w w' := by
  have HG := Lib.hid (And.intro h1 h2)
  clear h1 h2
  go_enter Tryz.func30, Tryz.ntmps30
  go_wp2_with fail
  refine (pvalid_yes a b c d e' f HG.out.1 HG.out.2 _).mono ?_
  rintro e V1 ⟨rfl, hb⟩
  obtain ⟨hg1, hs1⟩ := below_c (w := w) hb (by go_grown)
  have T1 := Lib.hid hg1
  clear hb hg1
  go_wp2
  go_returns
  exact ⟨rfl, T1.out⟩
theorem pget_nil (a b c d e' f : Int) (h1 : GV a b c) (h2 : GV d e' f) (w : World) :
    Calls Tryz.prog 38 #[PL a b c d e' f, .pointer none] w fun e w' => e = .returned (.tuple #[.agg #[.int .i64 0, .int .i64 0], .int .i64 1]) ∧ Below w.heap.size w w' := by
  have HG := Lib.hid (And.intro h1 h2)
  clear h1 h2
  go_enter Tryz.func38, Tryz.ntmps38
  go_wp2_with fail
  have B0 := (Bk.made w #[.int .i64 a, .int .i64 b, .int .i64 c, .int .i64 d, .int .i64 e', .int .i64 f] 65).alloc (.cells #[.int .i64 0, .int .i64 0] 58)
  have R0 : Bk ((w.alloc (.cells #[.int .i64 a, .int .i64 b, .int .i64 c, .int .i64 d, .int .i64 e', .int .i64 f] 65)).alloc (.cells #[.int .i64 0, .int .i64 0] 58)) (w.heap.size + 1) #[.int .i64 0, .int .i64 0] 58 := Bk.at_ (by simp)
  have b0 : Below w.heap.size w ((w.alloc (.cells #[.int .i64 a, .int .i64 b, .int .i64 c, .int .i64 d, .int .i64 e', .int .i64 f] 65)).alloc (.cells #[.int .i64 0, .int .i64 0] 58)) := by go_grown
  refine (pvalid_yes a b c d e' f HG.out.1 HG.out.2 _).mono ?_
  rintro e V1 ⟨rfl, hb⟩
  have T1 := Lib.hid (And.intro (B0.below hb) (And.intro (R0.below hb) (b0.trans (hb.mono b0.size))))
  have k0 := T1.out.1.cell (v := .int .i64 a) 0 rfl
  have k1 := T1.out.1.cell (v := .int .i64 b) 1 rfl
  have k2 := T1.out.1.cell (v := .int .i64 c) 2 rfl
  have kl := T1.out.1.lt
  clear hb B0 R0 b0
  go_wp2_with fail
  refine (gget_nil a b c HG.out.1 _).mono ?_
  rintro e V2 ⟨rfl, hb⟩
  have R2 := T1.out.2.1.below hb
  have T2 := Lib.hid (T1.out.2.2.trans (hb.mono T1.out.2.2.size))
  have j0 := R2.cell (v := .int .i64 0) 0 rfl
  have j1 := R2.cell (v := .int .i64 0) 1 rfl
  have f0 := R2.free 0
  have f1 := R2.free 1
  have jl := R2.lt
  clear hb T1 R2 k0 k1 k2 kl
  go_wp2
  refine bodyPost_ret (v := .tuple #[.agg #[.int .i64 0, .int .i64 0], .int .i64 1]) (by simp [results, Tryz.results38, go_sem, j0, j1, f0, f1, jl]; try rfl) rfl ?_
  exact ⟨rfl, T2.out.trans (by go_grown)⟩
/-- the plane and the point of absent -/
def AT (w : World) (a b c d e' f x y : Int) (V : World) : Prop := Bk V w.heap.size #[.int .i64 a, .int .i64 b, .int .i64 c, .int .i64 d, .int .i64 e', .int .i64 f] 65 ∧ Bk V (w.heap.size + 1) #[.int .i64 x, .int .i64 y] 58 ∧ Below w.heap.size w V
theorem AT.below {w : World} {a b c d e' f x y : Int} {V V' : World} (h : AT w a b c d e' f x y V) (hb : Below V.heap.size V V') : AT w a b c d e' f x y V' := ⟨h.1.below hb, h.2.1.below hb, h.2.2.trans (hb.mono h.2.2.size)⟩
set_option maxHeartbeats 1000000 in
theorem absent_any (a b c d e' f x y : Int) (h1 : GV a b c) (h2 : GV d e' f) (w : World) :
    Calls Tryz.prog 40 #[PL a b c d e' f, .agg #[.int .i64 x, .int .i64 y]] w fun e w' => e = .returned (.bool true) ∧ Below w.heap.size w w' := by
  have HG := Lib.hid (And.intro h1 h2)
  clear h1 h2
  go_enter Tryz.func40, Tryz.ntmps40
  go_wp2_with fail
  have T0 := Lib.hid (show AT w a b c d e' f x y ((w.alloc (.cells #[.int .i64 a, .int .i64 b, .int .i64 c, .int .i64 d, .int .i64 e', .int .i64 f] 65)).alloc (.cells #[.int .i64 x, .int .i64 y] 58)) from ⟨(Bk.made w #[.int .i64 a, .int .i64 b, .int .i64 c, .int .i64 d, .int .i64 e', .int .i64 f] 65).alloc _, Bk.at_ (by simp), by go_grown⟩)
  refine (gget_nil a b c HG.out.1 _).mono ?_
  rintro e V1 ⟨rfl, hb⟩
  have T1 := Lib.hid (AT.below T0.out hb)
  clear hb T0
  have k0 := T1.out.1.cell (v := .int .i64 a) 0 rfl
  have k1 := T1.out.1.cell (v := .int .i64 b) 1 rfl
  have k2 := T1.out.1.cell (v := .int .i64 c) 2 rfl
  have k3 := T1.out.1.cell (v := .int .i64 d) 3 rfl
  have k4 := T1.out.1.cell (v := .int .i64 e') 4 rfl
  have k5 := T1.out.1.cell (v := .int .i64 f) 5 rfl
  have kl := T1.out.1.lt
  have m0 := T1.out.2.1.cell (v := .int .i64 x) 0 rfl
  have m1 := T1.out.2.1.cell (v := .int .i64 y) 1 rfl
  have ml := T1.out.2.1.lt
  go_wp2_with fail
  refine (pget_nil a b c d e' f HG.out.1 HG.out.2 _).mono ?_
  rintro e V2 ⟨rfl, hb⟩
  have T2 := Lib.hid (AT.below T1.out hb)
  clear hb T1 k0 k1 k2 k3 k4 k5 kl m0 m1 ml
  have k0 := T2.out.1.cell (v := .int .i64 a) 0 rfl
  have k1 := T2.out.1.cell (v := .int .i64 b) 1 rfl
  have k2 := T2.out.1.cell (v := .int .i64 c) 2 rfl
  have k3 := T2.out.1.cell (v := .int .i64 d) 3 rfl
  have k4 := T2.out.1.cell (v := .int .i64 e') 4 rfl
  have k5 := T2.out.1.cell (v := .int .i64 f) 5 rfl
  have kl := T2.out.1.lt
  have m0 := T2.out.2.1.cell (v := .int .i64 x) 0 rfl
  have m1 := T2.out.2.1.cell (v := .int .i64 y) 1 rfl
  have ml := T2.out.2.1.lt
  go_wp2_with fail
  have Q0 := Bk.made V2 #[.int .i64 0, .int .i64 0] 58
  have b0 : Below V2.heap.size V2 (V2.alloc (.cells #[.int .i64 0, .int .i64 0] 58)) := by go_grown
  refine (pput_nil a b c d e' f x y HG.out.1 HG.out.2 _).mono ?_
  rintro e V3 ⟨rfl, hb⟩
  have T3 := Lib.hid (AT.below T2.out (b0.trans (hb.mono b0.size)))
  have Q3 := Lib.hid (Q0.below hb)
  clear hb T2 k0 k1 k2 k3 k4 k5 kl m0 m1 ml b0 Q0
  have k0 := T3.out.1.cell (v := .int .i64 a) 0 rfl
  have k1 := T3.out.1.cell (v := .int .i64 b) 1 rfl
  have k2 := T3.out.1.cell (v := .int .i64 c) 2 rfl
  have k3 := T3.out.1.cell (v := .int .i64 d) 3 rfl
  have k4 := T3.out.1.cell (v := .int .i64 e') 4 rfl
  have k5 := T3.out.1.cell (v := .int .i64 f) 5 rfl
  have kl := T3.out.1.lt
  have m0 := T3.out.2.1.cell (v := .int .i64 x) 0 rfl
  have m1 := T3.out.2.1.cell (v := .int .i64 y) 1 rfl
  have ml := T3.out.2.1.lt
  go_wp2_with fail
  refine (gput_nil a b c x HG.out.1 _).mono ?_
  rintro e V4 ⟨rfl, hb⟩
  have T4 := Lib.hid (AT.below T3.out hb)
  have Q4 := Lib.hid (Q3.out.below hb)
  clear hb T3 k0 k1 k2 k3 k4 k5 kl m0 m1 ml Q3
  have k0 := Q4.out.cell (v := .int .i64 0) 0 rfl
  have k1 := Q4.out.cell (v := .int .i64 0) 1 rfl
  have kl := Q4.out.lt
  go_wp2
  go_returns
  exact ⟨rfl, T4.out.2.2⟩
end Go.Proofs.YtghfggfgndgkjaaGreatDoor
namespace Go.Proofs.YtghfggfgndgkjaaGreatDoor
open Go.RowKit
set_option maxRecDepth 100000
attribute [local go_sem] opLow opUpon opLow2 opUpon2 opLow3

/-- a Reader that has failed -/
def RBad (w : World) (r : Nat) : Prop := ∃ s m, Bk w r #[.bool true, s, .int .i64 m, .int .i64 180] 122
theorem RBad.below {w w' : World} {r : Nat} (h : RBad w r) (hb : Below w.heap.size w w') : RBad w' r := by
  obtain ⟨s, m, h⟩ := h
  exact ⟨s, m, h.below hb⟩
theorem number_short (base r gb cap : Nat) (L : List Int) (m k : Nat) (w : World) (h : RdAt base w r gb cap L m) (hm : m ≤ L.length) (hs : 8 * ((L.length + 7) / 8) < m + k) (hl : L.length ≤ 1048576) :
    Calls Tryz.prog 73 #[.pointer (some ⟨r, 0, none⟩), .int .i64 k] w fun e w' => e = .returned (.tuple #[.int .u64 0, .int .i64 180]) ∧ Below w.heap.size w w' := by
  obtain ⟨z, hz⟩ : ∃ z : Int, 8 * (((L.length + 7) / 8 : Nat) : Int) - (m : Int) = z := ⟨_, rfl⟩
  have hz1 : z < (k : Int) := by omega
  have HL := Lib.hid (show L.length ≤ 1048576 ∧ m ≤ 1048576 from ⟨hl, by omega⟩)
  have HZ := Lib.hid hz
  clear hz hm hl hs
  go_enter Tryz.func73, Tryz.ntmps73
  go_wp2_with fail
  with_reducible refine (rest_any base r gb cap L m _ h HL.out.2 HL.out.1).mono ?_
  rw [HZ.out]
  rintro e w1 ⟨rfl, hb⟩
  have HB := Lib.hid hb
  clear hb
  go_wp2
  go_returns
  exact ⟨rfl, HB.out⟩
set_option maxHeartbeats 1000000 in
theorem read_short (base r gb cap : Nat) (L : List Int) (m k : Nat) (w : World) (h : RdAt base w r gb cap L m) (hk : k ≤ 63) (hm : m ≤ L.length) (hs : 8 * ((L.length + 7) / 8) < m + k) (hl : L.length ≤ 1048576) :
    Calls Tryz.prog 72 #[.pointer (some ⟨r, 0, none⟩), .int .i64 k, .int .i64 64, .func (.func 73) #[.pointer (some ⟨r, 0, none⟩)] #[]] w
      fun e w' => e = .returned (.tuple #[.int .u64 0, .int .i64 180]) ∧ RBad w' r ∧ Mut (fun b => b = r) w w' := by
  have c0 := h.1.cell (v := .bool true) 0 rfl
  have c3 := h.1.cell (v := .int .i64 0) 3 rfl
  have HL := Lib.hid (show m ≤ L.length ∧ 8 * ((L.length + 7) / 8) < m + k ∧ L.length ≤ 1048576 from ⟨hm, hs, hl⟩)
  clear hm hl hs
  go_enter Tryz.func72, Tryz.ntmps72
  go_wp2_with fail
  with_reducible refine (number_short base r gb cap L m k _ h HL.out.1 HL.out.2.1 HL.out.2.2).mono ?_
  rintro e w1 ⟨rfl, hb⟩
  have B1 := h.1.below hb
  have HX := Lib.hid (show RBad (w1.setCell ⟨r, 3, none⟩ (.int .i64 180)) r ∧ Mut (fun b => b = r) w (w1.setCell ⟨r, 3, none⟩ (.int .i64 180)) from ⟨⟨_, _, B1.put 3 _⟩, (Mut.of_below (U := fun b => b = r) hb).setCell (p := ⟨r, 3, none⟩) (.inl rfl) _⟩)
  have d3 := B1.cell (v := .int .i64 0) 3 rfl
  have df := B1.free 3
  have dl := B1.lt
  clear c0 c3 hb B1 h HL
  go_wp2
  go_returns
  exact ⟨rfl, HX.out⟩
set_option maxHeartbeats 1000000 in
theorem rget_short (base r gb cap : Nat) (L : List Int) (m k : Nat) (w : World) (h : RdAt base w r gb cap L m) (hk : k ≤ 63) (hm : m ≤ L.length) (hs : 8 * ((L.length + 7) / 8) < m + k) (hl : L.length ≤ 1048576) :
    Calls Tryz.prog 36 #[.pointer (some ⟨r, 0, none⟩), .int .i64 k] w fun e w' => e = .returned (.tuple #[.int .u64 0, .int .i64 180]) ∧ RBad w' r ∧ Mut (fun b => b = r) w w' := by
  have RS := Lib.hid (read_short base r gb cap L m k w h hk hm hs hl)
  clear hm hl hk hs h
  go_enter Tryz.func36, Tryz.ntmps36
  go_wp2_with fail
  refine RS.out.mono ?_
  rintro e w1 ⟨rfl, hr⟩
  have HR := Lib.hid hr
  clear hr RS
  go_wp2
  go_returns
  exact ⟨rfl, HR.out⟩
set_option maxHeartbeats 1000000 in
theorem read_bad (r k : Nat) (w : World) (h : RBad w r) (hk : k ≤ 63) :
    Calls Tryz.prog 72 #[.pointer (some ⟨r, 0, none⟩), .int .i64 k, .int .i64 64, .func (.func 73) #[.pointer (some ⟨r, 0, none⟩)] #[]] w
      fun e w' => e = .returned (.tuple #[.int .u64 0, .int .i64 180]) ∧ Below w.heap.size w w' := by
  obtain ⟨s, m, h⟩ := h
  have c0 := h.cell (v := .bool true) 0 rfl
  have c3 := h.cell (v := .int .i64 180) 3 rfl
  go_enter Tryz.func72, Tryz.ntmps72
  go_wp2
  go_region
  go_wp2
  go_returns
  exact ⟨rfl, by go_grown⟩
set_option maxHeartbeats 1000000 in
theorem rget_bad (r k : Nat) (w : World) (h : RBad w r) (hk : k ≤ 63) :
    Calls Tryz.prog 36 #[.pointer (some ⟨r, 0, none⟩), .int .i64 k] w fun e w' => e = .returned (.tuple #[.int .u64 0, .int .i64 180]) ∧ Below w.heap.size w w' := by
  have RS := Lib.hid (read_bad r k w h hk)
  clear hk h
  go_enter Tryz.func36, Tryz.ntmps36
  go_wp2_with fail
  refine RS.out.mono ?_
  rintro e w1 ⟨rfl, hr⟩
  have HR := Lib.hid hr
  clear hr RS
  go_wp2
  go_returns
  exact ⟨rfl, HR.out⟩
end Go.Proofs.YtghfggfgndgkjaaGreatDoor
namespace Go.Proofs.YtghfggfgndgkjaaGreatDoor
open Go Go.RowKit Go.Sort
set_option maxRecDepth 1000000
attribute [local go_sem] opLow opUpon opLow2 opUpon2 opLow3

/-- a Reader of these bits that has been asked for t bits -/
def RdT (w : World) (r gb : Nat) (L : List Int) (t : Nat) : Prop := if t ≤ L.length then ∃ base cap, RdAt base w r gb cap L t else RBad w r
/-- whole bytes -/
def Byt (L : List Int) : Prop := L.length % 8 = 0 ∧ L.length ≤ 1048576 ∧ IsBits L
def rvv (L : List Int) (t k : Nat) : Int := if t + k ≤ L.length then numAt L t k else 0
def ree (L : List Int) (t k : Nat) : Int := if t + k ≤ L.length then 0 else 180
/-- what a call that reads leaves -/
structure GotT (w : World) (r gb : Nat) (L : List Int) (t : Nat) (w' : World) : Prop where
  rd : RdT w' r gb L t
  mu : Mut (fun b => b = r) w w'
theorem RBad.lt {w : World} {r : Nat} (h : RBad w r) : r < w.heap.size := by obtain ⟨_, _, h⟩ := h; exact h.lt
theorem RdT.below {w w' : World} {r gb t : Nat} {L : List Int} (h : RdT w r gb L t) (hb : Below w.heap.size w w') : RdT w' r gb L t := by
  unfold RdT at *
  by_cases ht : t ≤ L.length
  · rw [if_pos ht] at *
    obtain ⟨b, c, h⟩ := h
    exact ⟨b, c, h.below hb⟩
  · rw [if_neg ht] at *
    exact h.below hb
theorem RdT.lt {w : World} {r gb t : Nat} {L : List Int} (h : RdT w r gb L t) : r < w.heap.size := by
  unfold RdT at h
  by_cases ht : t ≤ L.length
  · rw [if_pos ht] at h
    obtain ⟨b, c, h⟩ := h
    exact h.lt.1
  · rw [if_neg ht] at h
    exact h.lt
theorem rowT_same {w w' : World} {base e size n : Nat} {v : Value} {xs : List Value} (h : w.ownsRow base e size v n xs) (hb : ∀ b, v.ownBlock = some b → w'.heap[b]? = w.heap[b]?) : w'.ownsRow base e size v n xs := by
  obtain ⟨h1, h2⟩ := h
  refine ⟨h1, ?_⟩
  rcases h2 with h2 | ⟨g, cap, cur, hv, hg, hh, r⟩
  · exact .inl h2
  · exact .inr ⟨g, cap, cur, hv, hg, (hb g (by rw [hv]; rfl)).trans hh, r⟩
theorem RdT.same {w w' : World} {r gb t : Nat} {L : List Int} (h : RdT w r gb L t) (h1 : w'.heap[r]? = w.heap[r]?) (h2 : w'.heap[gb]? = w.heap[gb]?) : RdT w' r gb L t := by
  unfold RdT at *
  by_cases ht : t ≤ L.length
  · rw [if_pos ht] at *
    obtain ⟨b, c, k1, k2, k3⟩ := h
    exact ⟨b, c, h1.trans k1, rowT_same k2 (fun x hx => by obtain rfl : gb = x := Option.some.inj hx; exact h2), k3⟩
  · rw [if_neg ht] at *
    obtain ⟨s, m, h⟩ := h
    exact ⟨s, m, h1.trans h⟩
theorem GotT.back {w0 w w' : World} {r gb t : Nat} {L : List Int} (hb : Below w0.heap.size w0 w) (h : GotT w r gb L t w') : GotT w0 r gb L t w' :=
  ⟨h.1, (Mut.of_below (U := fun b => b = r) hb).trans h.2 (fun _ _ h => h)⟩
theorem GotT.fore {w w1 w2 : World} {r gb t : Nat} {L : List Int} (h : GotT w r gb L t w1) (hb : Below w1.heap.size w1 w2) : GotT w r gb L t w2 :=
  ⟨h.1.below hb, h.2.trans (Mut.of_below (U := fun b => b = r) hb) (fun _ _ h => h)⟩
theorem GotT.trans {w w1 w2 : World} {r gb t t2 : Nat} {L : List Int} (h : GotT w r gb L t w1) (h2 : GotT w1 r gb L t2 w2) : GotT w r gb L t2 w2 :=
  ⟨h2.1, h.2.trans h2.2 (fun _ _ h => h)⟩
theorem GotT.put {w W : World} {r gb t0 t : Nat} {L : List Int} (h0 : RdT w r gb L t0) (ht : t0 ≤ t) (h : GotT w r gb L t W) {p : Addr} (hp : w.heap.size ≤ p.block) (u : Value) : GotT w r gb L t (W.setCell p u) := by
  refine ⟨?_, h.2.setCell (.inr hp) u⟩
  have hr := h0.lt
  by_cases hl : t ≤ L.length
  · unfold RdT at h0
    rw [if_pos (Nat.le_trans ht hl)] at h0
    obtain ⟨b, c, h0⟩ := h0
    have hg := h0.lt.2
    exact h.rd.same (Below.heap_setCell _ _ _ _ (by omega)) (Below.heap_setCell _ _ _ _ (by omega))
  · have h1 := h.1
    unfold RdT at h1 ⊢
    rw [if_neg hl] at *
    obtain ⟨s, m, h1⟩ := h1
    exact ⟨s, m, h1.far (by omega) u⟩
theorem rget_t (r gb t k : Nat) (L : List Int) (w : World) (h : RdT w r gb L t) (hL : Byt L) (hk : k ≤ 63) :
    Calls Tryz.prog 36 #[.pointer (some ⟨r, 0, none⟩), .int .i64 k] w fun e w' => e = .returned (.tuple #[.int .u64 (rvv L t k), .int .i64 (ree L t k)]) ∧ GotT w r gb L (t + k) w' := by
  unfold RdT at h
  by_cases ht : t ≤ L.length
  · rw [if_pos ht] at h
    obtain ⟨base, cap, h⟩ := h
    by_cases hs : t + k ≤ L.length
    · have e1 : rvv L t k = numAt L t k := if_pos hs
      have e2 : ree L t k = 0 := if_pos hs
      rw [e1, e2]
      refine (rget_any base r gb cap L t k w h hk hs hL.2.1).mono ?_
      rintro e w' ⟨rfl, hr⟩
      exact ⟨rfl, by unfold RdT; rw [if_pos hs]; exact ⟨_, _, hr.1⟩, hr.2⟩
    · have e1 : rvv L t k = 0 := if_neg hs
      have e2 : ree L t k = 180 := if_neg hs
      rw [e1, e2]
      refine (rget_short base r gb cap L t k w h hk ht (by have := hL.1; omega) hL.2.1).mono ?_
      rintro e w' ⟨rfl, hr, hm⟩
      exact ⟨rfl, by unfold RdT; rw [if_neg hs]; exact hr, hm⟩
  · rw [if_neg ht] at h
    have hs : ¬ t + k ≤ L.length := by omega
    have e1 : rvv L t k = 0 := if_neg hs
    have e2 : ree L t k = 180 := if_neg hs
    rw [e1, e2]
    refine (rget_bad r k w h hk).mono ?_
    rintro e w' ⟨rfl, hb⟩
    exact ⟨rfl, by unfold RdT; rw [if_neg hs]; exact h.below hb, Mut.of_below (U := fun b => b = r) hb⟩
set_option maxHeartbeats 1000000 in
/-- a grid's Get where bits lack -/
theorem gget_lack (r gb t : Nat) (L : List Int) (lo hi b : Int) (w : World) (h : RdT w r gb L t) (hL : Byt L) (hg : GV lo hi b) (hs : ¬ t + b.toNat ≤ L.length) :
    Calls Tryz.prog 37 #[G lo hi b, .pointer (some ⟨r, 0, none⟩)] w fun e w' => e = .returned (.tuple #[.int .i64 0, .int .i64 180]) ∧ GotT w r gb L (t + b.toNat) w' := by
  have HG := Lib.hid hg
  have HL := Lib.hid hL
  have HB : 1 ≤ b ∧ b ≤ 32 := hg.2.2.2
  obtain ⟨k, rfl⟩ := nat_of (show 0 ≤ b by omega)
  have hs : ¬ t + k ≤ L.length := hs
  have E1 := Lib.hid (show rvv L t k = 0 from if_neg hs)
  have E2 := Lib.hid (show ree L t k = 180 from if_neg hs)
  have HK := Lib.hid (show k ≤ 63 by omega)
  clear hg hL HB hs
  go_enter Tryz.func37, Tryz.ntmps37
  go_wp2_with fail
  with_reducible refine (valid_yes _ _ _ HG.out _).mono ?_
  rintro e w1 ⟨rfl, hb⟩
  have hb0 := (Below.refl w.heap.size w).alloc (Nat.le_refl _) (.cells #[.int .i64 lo, .int .i64 hi, .int .i64 k] 23)
  have B1 := Bk.below (g := w.heap.size) (cs := #[.int .i64 lo, .int .i64 hi, .int .i64 k]) (t := 23) (Bk.made _ _ _) hb
  have c2 := B1.cell (v := .int .i64 k) 2 rfl
  have h1 := (h.below hb0).below hb
  obtain ⟨hg1, hs1⟩ := below_c (w := w) hb hb0
  go_wp2_with fail
  with_reducible refine (rget_t r gb t k L _ h1 HL.out HK.out).mono ?_
  rw [E1.out, E2.out]
  rintro e w2 ⟨rfl, hr⟩
  have HR := Lib.hid (GotT.back hg1 hr)
  clear hr hb hb0 B1 c2 h1 hg1 hs1 h
  go_wp2
  go_returns
  exact ⟨rfl, HR.out⟩
/-- what a grid's Get answers -/
def gvv (L : List Int) (t : Nat) (lo hi b : Int) : Int := if t + b.toNat ≤ L.length then qp lo hi b (numAt L t b.toNat) else 0
theorem num_gn {L : List Int} (h : IsBits L) (t : Nat) (b : Int) : numAt L t b.toNat ≤ gn b := by
  have := (numAt_bd h t b.toNat).2
  unfold gn
  omega
theorem gget_t (r gb t : Nat) (L : List Int) (lo hi b : Int) (w : World) (h : RdT w r gb L t) (hL : Byt L) (hg : GV lo hi b) :
    Calls Tryz.prog 37 #[G lo hi b, .pointer (some ⟨r, 0, none⟩)] w fun e w' => e = .returned (.tuple #[.int .i64 (gvv L t lo hi b), .int .i64 (ree L t b.toNat)]) ∧ GotT w r gb L (t + b.toNat) w' := by
  by_cases hs : t + b.toNat ≤ L.length
  · have e1 : gvv L t lo hi b = qp lo hi b (numAt L t b.toNat) := if_pos hs
    have e2 : ree L t b.toNat = 0 := if_pos hs
    rw [e1, e2]
    unfold RdT at h
    rw [if_pos (show t ≤ L.length by omega)] at h
    obtain ⟨base, cap, h⟩ := h
    refine (gget_any base r gb cap L t lo hi b _ w h hg hs hL.2.1 rfl (num_gn hL.2.2 t b)).mono ?_
    rintro e w' ⟨rfl, hr⟩
    exact ⟨rfl, by unfold RdT; rw [if_pos hs]; exact ⟨_, _, hr.1⟩, hr.2⟩
  · have e1 : gvv L t lo hi b = 0 := if_neg hs
    have e2 : ree L t b.toNat = 180 := if_neg hs
    rw [e1, e2]
    exact gget_lack r gb t L lo hi b w h hL hg hs
set_option maxHeartbeats 1000000 in
/-- a plane's Get where bits of the first coordinate lack -/
theorem pget_lack1 (r gb t : Nat) (L : List Int) (a b c d e' f : Int) (w : World) (h : RdT w r gb L t) (hL : Byt L) (hg1 : GV a b c) (hg2 : GV d e' f) (hs : ¬ t + c.toNat ≤ L.length) :
    Calls Tryz.prog 38 #[PL a b c d e' f, .pointer (some ⟨r, 0, none⟩)] w fun e w' => e = .returned (.tuple #[.agg #[.int .i64 0, .int .i64 0], .int .i64 180]) ∧ GotT w r gb L (t + c.toNat) w' := by
  have HG := Lib.hid (show GV a b c ∧ GV d e' f from ⟨hg1, hg2⟩)
  have HL := Lib.hid hL
  have HS := Lib.hid hs
  have HT := Lib.hid h.lt
  have HR0 := Lib.hid h
  clear hg1 hg2 hL hs h
  go_enter Tryz.func38, Tryz.ntmps38
  go_wp2_with fail
  with_reducible refine (pvalid_yes _ _ _ _ _ _ HG.out.1 HG.out.2 _).mono ?_
  rintro e w1 ⟨rfl, hb⟩
  have hb0 := ((Below.refl w.heap.size w).alloc (Nat.le_refl _) (.cells #[.int .i64 a, .int .i64 b, .int .i64 c, .int .i64 d, .int .i64 e', .int .i64 f] 65)).alloc (by simp) (.cells #[.int .i64 0, .int .i64 0] 58)
  have Bp : Bk w1 w.heap.size #[.int .i64 a, .int .i64 b, .int .i64 c, .int .i64 d, .int .i64 e', .int .i64 f] 65 := Bk.below ((Bk.made _ _ _).alloc _) hb
  have Bv : Bk w1 (w.heap.size + 1) #[.int .i64 0, .int .i64 0] 58 := Bk.below (Bk.at_ (by simp)) hb
  have h1 := Lib.hid ((HR0.out.below hb0).below hb)
  obtain ⟨hB, hS⟩ := below_c (w := w) hb hb0
  clear hb hb0
  have c0 := Bp.cell (v := .int .i64 a) 0 rfl
  have c1 := Bp.cell (v := .int .i64 b) 1 rfl
  have c2 := Bp.cell (v := .int .i64 c) 2 rfl
  go_wp2_with fail
  with_reducible refine (gget_lack r gb t L a b c _ h1.out HL.out HG.out.1 HS.out).mono ?_
  rintro e w2 ⟨rfl, hr⟩
  have Bv2 := Bv.mut hr.2 (fun hu => by have := HT.out; omega)
  have hr := Lib.hid (GotT.back hB hr)
  clear Bp Bv h1 hB hS c0 c1 c2
  have j0 := Bv2.cell (v := .int .i64 0) 0 rfl
  have j1 := Bv2.cell (v := .int .i64 0) 1 rfl
  have f0 := Bv2.free 0
  have f1 := Bv2.free 1
  have jl := Bv2.lt
  clear Bv2
  go_wp2
  refine bodyPost_ret (v := .tuple #[.agg #[.int .i64 0, .int .i64 0], .int .i64 180]) (by simp [results, Tryz.results38, go_sem, j0, j1, f0, f1, jl]; try rfl) rfl ?_
  exact ⟨rfl, (hr.out.put HR0.out (by omega) (p := ⟨w.heap.size + 1, 0, none⟩) (Nat.le_add_right _ 1) _).put HR0.out (by omega) (p := ⟨w.heap.size + 1, 1, none⟩) (Nat.le_add_right _ 1) _⟩
set_option maxHeartbeats 1000000 in
/-- a plane's Get where bits of the second coordinate lack -/
theorem pget_lack2 (r gb t : Nat) (L : List Int) (a b c d e' f : Int) (w : World) (h : RdT w r gb L t) (hL : Byt L) (hg1 : GV a b c) (hg2 : GV d e' f) (hs1 : t + c.toNat ≤ L.length) (hs : ¬ t + c.toNat + f.toNat ≤ L.length) :
    Calls Tryz.prog 38 #[PL a b c d e' f, .pointer (some ⟨r, 0, none⟩)] w fun e w' => e = .returned (.tuple #[.agg #[.int .i64 0, .int .i64 0], .int .i64 180]) ∧ GotT w r gb L (t + c.toNat + f.toNat) w' := by
  have HG := Lib.hid (show GV a b c ∧ GV d e' f from ⟨hg1, hg2⟩)
  have HL := Lib.hid hL
  have HS := Lib.hid hs
  have HT := Lib.hid h.lt
  have HR0 := Lib.hid h
  have E2 := Lib.hid (show ree L t c.toNat = 0 from if_pos hs1)
  obtain ⟨gx, E1⟩ : ∃ gx, Hid (gvv L t a b c = gx) := ⟨_, Lib.hid rfl⟩
  clear hg1 hg2 hL hs h hs1
  go_enter Tryz.func38, Tryz.ntmps38
  go_wp2_with fail
  with_reducible refine (pvalid_yes _ _ _ _ _ _ HG.out.1 HG.out.2 _).mono ?_
  rintro e w1 ⟨rfl, hb⟩
  have hb0 := ((Below.refl w.heap.size w).alloc (Nat.le_refl _) (.cells #[.int .i64 a, .int .i64 b, .int .i64 c, .int .i64 d, .int .i64 e', .int .i64 f] 65)).alloc (by simp) (.cells #[.int .i64 0, .int .i64 0] 58)
  have Bp : Bk w1 w.heap.size #[.int .i64 a, .int .i64 b, .int .i64 c, .int .i64 d, .int .i64 e', .int .i64 f] 65 := Bk.below ((Bk.made _ _ _).alloc _) hb
  have Bv : Bk w1 (w.heap.size + 1) #[.int .i64 0, .int .i64 0] 58 := Bk.below (Bk.at_ (by simp)) hb
  have h1 := Lib.hid ((HR0.out.below hb0).below hb)
  obtain ⟨hB, hS⟩ := below_c (w := w) hb hb0
  clear hb hb0
  have c0 := Bp.cell (v := .int .i64 a) 0 rfl
  have c1 := Bp.cell (v := .int .i64 b) 1 rfl
  have c2 := Bp.cell (v := .int .i64 c) 2 rfl
  go_wp2_with fail
  with_reducible refine (gget_t r gb t L a b c _ h1.out HL.out HG.out.1).mono ?_
  rw [E1.out, E2.out]
  rintro e w2 ⟨rfl, hr⟩
  have Bp2 := Bp.mut hr.2 (fun hu => by have := HT.out; omega)
  have Bv2 := Bv.mut hr.2 (fun hu => by have := HT.out; omega)
  have hr := Lib.hid (GotT.back hB hr)
  clear Bp Bv h1 hB hS c0 c1 c2
  have c3 := Bp2.cell (v := .int .i64 d) 3 rfl
  have c4 := Bp2.cell (v := .int .i64 e') 4 rfl
  have c5 := Bp2.cell (v := .int .i64 f) 5 rfl
  go_wp2_with fail
  with_reducible refine (gget_lack r gb _ L d e' f _ (hr.out).1 HL.out HG.out.2 HS.out).mono ?_
  rintro e w3 ⟨rfl, hr3⟩
  have Bv3 := Bv2.mut hr3.2 (fun hu => by have := HT.out; omega)
  have hr := Lib.hid (hr.out.trans hr3)
  clear Bp2 Bv2 hr3 c3 c4 c5
  have j0 := Bv3.cell (v := .int .i64 0) 0 rfl
  have j1 := Bv3.cell (v := .int .i64 0) 1 rfl
  have f0 := Bv3.free 0
  have f1 := Bv3.free 1
  have jl := Bv3.lt
  clear Bv3
  go_wp2
  refine bodyPost_ret (v := .tuple #[.agg #[.int .i64 0, .int .i64 0], .int .i64 180]) (by simp [results, Tryz.results38, go_sem, j0, j1, f0, f1, jl]; try rfl) rfl ?_
  exact ⟨rfl, (hr.out.put HR0.out (by omega) (p := ⟨w.heap.size + 1, 0, none⟩) (Nat.le_add_right _ 1) _).put HR0.out (by omega) (p := ⟨w.heap.size + 1, 1, none⟩) (Nat.le_add_right _ 1) _⟩
/-- what a plane's Get answers -/
def pxx (L : List Int) (t : Nat) (a b c f : Int) : Int := if t + c.toNat + f.toNat ≤ L.length then qp a b c (numAt L t c.toNat) else 0
def pyy (L : List Int) (t : Nat) (c d e' f : Int) : Int := if t + c.toNat + f.toNat ≤ L.length then qp d e' f (numAt L (t + c.toNat) f.toNat) else 0
theorem pget_t (r gb t : Nat) (L : List Int) (a b c d e' f : Int) (w : World) (h : RdT w r gb L t) (hL : Byt L) (hg1 : GV a b c) (hg2 : GV d e' f) :
    Calls Tryz.prog 38 #[PL a b c d e' f, .pointer (some ⟨r, 0, none⟩)] w
      fun e w' => e = .returned (.tuple #[.agg #[.int .i64 (pxx L t a b c f), .int .i64 (pyy L t c d e' f)], .int .i64 (ree L t (c.toNat + f.toNat))]) ∧ GotT w r gb L (t + c.toNat + f.toNat) w' := by
  by_cases hs : t + c.toNat + f.toNat ≤ L.length
  · have e1 : pxx L t a b c f = _ := if_pos hs
    have e2 : pyy L t c d e' f = _ := if_pos hs
    have e3 : ree L t (c.toNat + f.toNat) = 0 := if_pos (by omega)
    rw [e1, e2, e3]
    unfold RdT at h
    rw [if_pos (show t ≤ L.length by omega)] at h
    obtain ⟨base, cap, h⟩ := h
    refine (pget_any base r gb cap L t a b c d e' f _ _ w h hg1 hg2 hs hL.2.1 ⟨rfl, num_gn hL.2.2 _ _⟩ ⟨rfl, num_gn hL.2.2 _ _⟩).mono ?_
    rintro e w' ⟨rfl, hr⟩
    exact ⟨rfl, by unfold RdT; rw [if_pos hs]; exact ⟨_, _, hr.1⟩, hr.2⟩
  · have e1 : pxx L t a b c f = 0 := if_neg hs
    have e2 : pyy L t c d e' f = 0 := if_neg hs
    have e3 : ree L t (c.toNat + f.toNat) = 180 := if_neg (by omega)
    rw [e1, e2, e3]
    by_cases hs1 : t + c.toNat ≤ L.length
    · exact pget_lack2 r gb t L a b c d e' f w h hL hg1 hg2 hs1 hs
    · refine (pget_lack1 r gb t L a b c d e' f w h hL hg1 hg2 hs1).mono ?_
      rintro e w' ⟨rfl, hr⟩
      refine ⟨rfl, ?_, hr.2⟩
      have h1 := hr.1
      unfold RdT at *
      rw [if_neg hs1] at h1
      rw [if_neg hs]; exact h1
end Go.Proofs.YtghfggfgndgkjaaGreatDoor
namespace Go.Proofs.YtghfggfgndgkjaaGreatDoor
open Go Go.RowKit Go.Sort
set_option maxRecDepth 1000000
attribute [local go_sem] opLow opUpon opLow2 opUpon2 opLow3

/-- the first q bytes of the bits, the last one filled up -/
def padTo (l : List Int) (q : Nat) : List Int := (List.range (8 * q)).map (bt l)
theorem padTo_length (l : List Int) (q : Nat) : (padTo l q).length = 8 * q := by simp [padTo]
theorem bt_padTo (l : List Int) (q j : Nat) (h : j < 8 * q) : bt (padTo l q) j = bt l j := by
  simp [bt, padTo, List.getD, h]
theorem padTo_bits {l : List Int} (h : IsBits l) (q : Nat) : IsBits (padTo l q) := fun j => by
  by_cases hj : j < 8 * q
  · rw [bt_padTo l q j hj]; exact h j
  · rw [bt_out _ _ (by rw [padTo_length]; omega)]; exact .inl rfl
theorem padTo_byt {l : List Int} (h : IsBits l) (q : Nat) (hq : q ≤ 131072) : Byt (padTo l q) := ⟨by rw [padTo_length]; omega, by rw [padTo_length]; omega, padTo_bits h q⟩
theorem byteOf_padTo (l : List Int) (q i : Nat) (h : i < q) : byteOf (padTo l q) i = byteOf l i := by
  unfold byteOf
  rw [bt_padTo _ _ _ (by omega), bt_padTo _ _ _ (by omega), bt_padTo _ _ _ (by omega), bt_padTo _ _ _ (by omega), bt_padTo _ _ _ (by omega), bt_padTo _ _ _ (by omega), bt_padTo _ _ _ (by omega), bt_padTo _ _ _ (by omega)]
theorem numAt_padTo (l : List Int) (q at_ : Nat) : ∀ k, at_ + k ≤ 8 * q → numAt (padTo l q) at_ k = numAt l at_ k
  | 0, _ => rfl
  | k + 1, h => by rw [numAt, numAt, numAt_padTo l q at_ k (by omega), bt_padTo _ _ _ (by omega)]
theorem packV_padTo (l : List Int) (q j : Nat) (u : Value) (hq : q ≤ (l.length + 7) / 8) (h : (packV (padTo l q))[j]? = some u) : (packV l)[j]? = some u := by
  have hj : j < q := by
    have h1 := (List.getElem?_eq_some_iff.1 h).1
    rw [packV_length, padTo_length] at h1
    omega
  rw [packV_at _ _ (by rw [padTo_length]; omega), byteOf_padTo l q j hj] at h
  rw [packV_at _ _ (by omega)]
  exact h
/-- a copy of bytes, none among them too -/
theorem clone_sl (b q cap : Nat) (xs : List Value) (w : World) (hc : ∀ j u, xs[j]? = some u → w.cell? ((⟨b, 0, none⟩ : Addr).add j) = some u) (hxl : xs.length = q) (hx : ∀ u ∈ xs, u.oneCell' = true) (hq2 : q ≤ 1048576) :
    Calls Tryz.prog 71 #[.slice (some ⟨b, 0, none⟩) q cap] w (fun e w' => ∃ g c, e = .returned (.slice (some ⟨g, 0, none⟩) q c) ∧ w'.ownsRow w.heap.size 5 1 (.slice (some ⟨g, 0, none⟩) q c) q xs ∧ Below w.heap.size w w') := by
  obtain ⟨i0, hi, hz0, hz1, hz2⟩ := info_parts infoU8
  have hown : (w.alloc (.cells #[] 5)).ownsRow w.heap.size 5 1 (.slice (some ⟨w.heap.size, 0, none⟩) 0 0) 0 [] := World.ownsRow_made w #[] 0 (Nat.le_refl _) (by decide) (by decide)
  have hb0 : Below w.heap.size w (w.alloc (.cells #[] 5)) := by go_grown
  have hcell : ∀ j u, xs[j]? = some u → (w.alloc (.cells #[] 5)).cell? ((⟨b, 0, none⟩ : Addr).add j) = some u := fun j u hu => cell_later hb0 (hc j u hu)
  have heq : ∀ w : World, (binOp .eql 59 (.slice (some ⟨b, 0, none⟩) q cap) (.slice none 0 0)).run Tryz.prog w = .ok (.bool false) w := fun w => Lib.run_eql_slice_nil w _ 5 (some ⟨b, 0, none⟩) q cap 0 0 Tryz.underlying59
  have HO := Lib.hid hown
  have HCl := Lib.hid hcell
  have HX := Lib.hid (show (∀ u ∈ xs, u.oneCell' = true) ∧ xs.length = q * 1 from ⟨hx, by omega⟩)
  clear hown hcell hx hxl hc hb0
  go_enter Tryz.func71, Tryz.ntmps71
  go_wp2_with (at_builtin; refine wpList_append_own _ rfl _ _ 59 rfl w.heap.size 5 i0 (.int .u8 0) 1 1 Tryz.underlying59 hi hz0 hz1 hz2 rfl (by decide) _ 0 [] rfl HO.out ⟨b, 0, none⟩ q cap xs rfl HX.out.2 HCl.out HX.out.1 ?c1 ?c2 (by simp) ?_)
  case c1 => unfold maxLen; omega
  case c2 => omega
  intro v' w1 hown' hgrow hv
  obtain ⟨g, cap', rfl⟩ : ∃ g cap', v' = .slice (some ⟨g, 0, none⟩) q cap' := by
    rcases hown'.2 with ⟨h1, h2⟩ | ⟨g, c, _, h, _⟩
    · exact absurd h1 hv
    · exact ⟨g, c, h⟩
  go_wp2
  go_returns
  exact ⟨_, _, rfl, hown', ((Below.refl _ _).alloc (Nat.le_refl _) _).grown hgrow (by simp) (by intro k hk; cases hk; exact Nat.le_refl _)⟩
/-- a Reader of the first q bytes -/
theorem reader_t (base g Q c q cap : Nat) (l : List Int) (w : World) (h : w.ownsRow base 5 1 (.slice (some ⟨g, 0, none⟩) Q c) Q (packV l)) (hl : IsBits l) (hQ : (l.length + 7) / 8 = Q) (hq : q ≤ Q) (hq2 : q ≤ 131072) :
    Calls Tryz.prog 35 #[.slice (some ⟨g, 0, none⟩) q cap] w fun e w' => ∃ r gb, e = .returned (.pointer (some ⟨r, 0, none⟩)) ∧ w.heap.size ≤ r ∧ w.heap.size ≤ gb ∧ gb < w'.heap.size ∧ r ≠ gb ∧ RdT w' r gb (padTo l q) 0 ∧ Below w.heap.size w w' := by
  have HX := Lib.hid (show (∀ j u, (packV (padTo l q))[j]? = some u → w.cell? ((⟨g, 0, none⟩ : Addr).add j) = some u) ∧ (packV (padTo l q)).length = q ∧ IsBits (padTo l q) from ⟨fun j u hu => h.cells (g := g) rfl j u (packV_padTo l q j u (by omega) hu), by rw [packV_length, padTo_length]; omega, padTo_bits hl q⟩)
  clear h hl hQ hq
  go_enter Tryz.func35, Tryz.ntmps35
  go_wp2_with fail
  with_reducible refine (clone_sl g q cap (packV (padTo l q)) _ HX.out.1 HX.out.2.1 (packV_one _) (by omega)).mono ?_
  rintro e w1 ⟨g2, c2, rfl, hown2, hb⟩
  have hlt := hown2.lt g2 rfl
  go_wp2
  go_returns
  refine ⟨_, g2, rfl, hb.size, hlt.1, ?_, ?_, ?_, hb.alloc hb.size _⟩
  · simp; have := hlt.2; omega
  · have := hlt.2; omega
  unfold RdT
  rw [if_pos (Nat.zero_le _)]
  have e : ((padTo l q).length + 7) / 8 = q := by rw [padTo_length]; omega
  refine ⟨w.heap.size, c2, ?_, ?_, HX.out.2.2⟩
  · rw [e]; exact Bk.made _ _ _
  · rw [e]; exact hown2.alloc _
end Go.Proofs.YtghfggfgndgkjaaGreatDoor
namespace Go.Proofs.YtghfggfgndgkjaaGreatDoor
open Go Go.RowKit Go.Sort

def ones (n : Nat) : List Int := List.replicate n 1
theorem ones_length (n : Nat) : (ones n).length = n := by simp [ones]
theorem ones_zero : ones 0 = [] := rfl
theorem ones_succ (n : Nat) : ones n ++ bitsOf 1 1 = ones (n + 1) := by
  have e : bitsOf 1 1 = [1] := by decide
  rw [e]; unfold ones
  rw [List.replicate_succ']
/-- all bits that are written -/
def sent (n : Nat) (i j : Int) (B1 B2 : Nat) : List Int := ones n ++ bitsOf i B1 ++ bitsOf i B1 ++ bitsOf j B2
theorem sent_length (n : Nat) (i j : Int) (B1 B2 : Nat) : (sent n i j B1 B2).length = n + 2 * B1 + B2 := by
  unfold sent
  rw [List.length_append, List.length_append, List.length_append, bitsOf_length, bitsOf_length, ones_length]; omega
theorem sent_nums (n : Nat) (i j : Int) (B1 B2 : Nat) (hi : 0 ≤ i ∧ i < 2 ^ B1) (hj : 0 ≤ j ∧ j < 2 ^ B2) :
    numAt (sent n i j B1 B2) n B1 = i ∧ numAt (sent n i j B1 B2) (n + B1) B1 = i ∧ numAt (sent n i j B1 B2) (n + B1 + B1) B2 = j := by
  refine ⟨?_, ?_, ?_⟩
  · have := numAt_all (ones n) (bitsOf i B1 ++ bitsOf j B2) i B1 hi.1 hi.2
    rw [ones_length, ← List.append_assoc] at this
    exact this
  · have := numAt_all (ones n ++ bitsOf i B1) (bitsOf j B2) i B1 hi.1 hi.2
    rw [List.length_append, ones_length, bitsOf_length] at this
    exact this
  · have := numAt_all (ones n ++ bitsOf i B1 ++ bitsOf i B1) [] j B2 hj.1 hj.2
    rw [List.append_nil, List.length_append, List.length_append, ones_length, bitsOf_length] at this
    exact this
/-- what a turn reads -/
def Turn (i P0 j Q0 p g qx qy h k ie l je m oe : Int) : Prop :=
  (ie = 180 ∧ p = 0 ∧ g = 180 ∧ qx = 0 ∧ qy = 0 ∧ h = 180) ∨
  (ie = 0 ∧ k = i ∧ g = 0 ∧ p = P0 ∧ qx = 0 ∧ qy = 0 ∧ h = 180 ∧ oe = 180 ∧ (je = 0 ∨ je = 180)) ∨
  (ie = 0 ∧ k = i ∧ g = 0 ∧ p = P0 ∧ qx = P0 ∧ qy = Q0 ∧ h = 0 ∧ oe = 0 ∧ je = 0 ∧ l = i ∧ m = j)
theorem turn_of (n q : Nat) (a b c d e f i j : Int) (hi : 0 ≤ i ∧ i < 2 ^ c.toNat) (hj : 0 ≤ j ∧ j < 2 ^ f.toNat) (L : List Int) (hL : padTo (sent n i j c.toNat f.toNat) q = L) (hq : q ≤ (n + 2 * c.toNat + f.toNat + 7) / 8) :
    Turn i (qp a b c i) j (qp d e f j) (gvv L n a b c) (ree L n c.toNat) (pxx L (n + c.toNat) a b c f) (pyy L (n + c.toNat) c d e f) (ree L (n + c.toNat) (c.toNat + f.toNat))
      (rvv L n c.toNat) (ree L n c.toNat) (rvv L (n + c.toNat) c.toNat) (ree L (n + c.toNat) c.toNat) (rvv L (n + c.toNat + c.toNat) f.toNat) (ree L (n + c.toNat + c.toNat) f.toNat) := by
  subst hL
  obtain ⟨s1, s2, s3⟩ := sent_nums n i j c.toNat f.toNat hi hj
  unfold Turn gvv ree pxx pyy rvv
  rw [padTo_length]
  generalize c.toNat = C at *
  generalize f.toNat = F at *
  by_cases h1 : n + C ≤ 8 * q
  · have v1 : numAt (padTo (sent n i j C F) q) n C = i := by rw [numAt_padTo _ _ _ _ h1, s1]
    by_cases h2 : n + C + C + F ≤ 8 * q
    · have v2 : numAt (padTo (sent n i j C F) q) (n + C) C = i := by rw [numAt_padTo _ _ _ _ (by omega), s2]
      have v3 : numAt (padTo (sent n i j C F) q) (n + C + C) F = j := by rw [numAt_padTo _ _ _ _ (by omega), s3]
      have h3 : n + C + C ≤ 8 * q := by omega
      have h4 : n + C + (C + F) ≤ 8 * q := by omega
      rw [v1, v2, v3]
      exact .inr (.inr ⟨if_pos h1, if_pos h1, if_pos h1, if_pos h1, if_pos h2, if_pos h2, if_pos h4, if_pos h2, if_pos h3, if_pos h3, if_pos h2⟩)
    · have h4 : ¬ n + C + (C + F) ≤ 8 * q := by omega
      rw [v1]
      exact .inr (.inl ⟨if_pos h1, if_pos h1, if_pos h1, if_pos h1, if_neg h2, if_neg h2, if_neg h4, if_neg h2, by split <;> simp⟩)
  · have h2 : ¬ n + C + C + F ≤ 8 * q := by omega
    have h4 : ¬ n + C + (C + F) ≤ 8 * q := by omega
    exact .inl ⟨if_neg h1, if_neg h1, if_neg h1, if_neg h2, if_neg h2, if_neg h4⟩
end Go.Proofs.YtghfggfgndgkjaaGreatDoor
namespace Go.Proofs.YtghfggfgndgkjaaGreatDoor
open Go Go.RowKit Go.Sort
set_option maxRecDepth 100000

/-- what Put of a grid answers and what the Writer holds then -/
def PutG (lo hi b x : Int) (l : List Int) (e : Int) (l1 : List Int) : Prop := (GV lo hi b ∧ e = 0 ∧ l1 = l ++ bitsOf (qi lo hi b x) b.toNat) ∨ (¬ GV lo hi b ∧ e = 2 ∧ l1 = l)
def PutP (a b c d e' f x y : Int) (l : List Int) (e : Int) (l1 : List Int) : Prop := ((GV a b c ∧ GV d e' f) ∧ e = 0 ∧ l1 = l ++ bitsOf (qi a b c x) c.toNat ++ bitsOf (qi d e' f y) f.toNat) ∨ (¬ (GV a b c ∧ GV d e' f) ∧ e = 2 ∧ l1 = l)
theorem wrote_below {base g : Nat} {s : Value} {l : List Int} {w w' : World} (h : WrAt base w g s l) (hb : Below w.heap.size w w') : Wrote base w g s l w' :=
  ⟨s, h.below hb, Mut.of_below hb, fun b hb => .inl hb⟩
theorem gput_u (base g : Nat) (s : Value) (l l1 : List Int) (lo hi b x e : Int) (w : World) (h : WrAt base w g s l) (hl : l.length + 128 < 1048576) (hbg : base ≤ w.heap.size) (hp : PutG lo hi b x l e l1) :
    Calls Tryz.prog 29 #[G lo hi b, .pointer (some ⟨g, 0, none⟩), .int .i64 x] w fun o w' => o = .returned (.int .i64 e) ∧ Wrote base w g s l1 w' := by
  rcases hp with ⟨hg, rfl, rfl⟩ | ⟨hg, rfl, rfl⟩
  · exact gput_any base g s l lo hi b x w h hg hl hbg
  · refine (put_no lo hi b x _ hg w).mono ?_
    rintro o w' ⟨rfl, hb⟩
    exact ⟨rfl, wrote_below h hb⟩
theorem pput_u (base g : Nat) (s : Value) (l l1 : List Int) (a b c d e' f x y e : Int) (w : World) (h : WrAt base w g s l) (hl : l.length + 192 < 1048576) (hbg : base ≤ w.heap.size) (hp : PutP a b c d e' f x y l e l1) :
    Calls Tryz.prog 30 #[PL a b c d e' f, .pointer (some ⟨g, 0, none⟩), .agg #[.int .i64 x, .int .i64 y]] w fun o w' => o = .returned (.int .i64 e) ∧ Wrote base w g s l1 w' := by
  rcases hp with ⟨hg, rfl, rfl⟩ | ⟨hg, rfl, rfl⟩
  · exact pput_any base g s l a b c d e' f x y w h hg.1 hg.2 hl hbg
  · refine (pput_no a b c d e' f x y _ hg w).mono ?_
    rintro o w' ⟨rfl, hb⟩
    exact ⟨rfl, wrote_below h hb⟩
theorem Bk.under {n : Nat} {w w' : World} {g : Nat} {cs : Array Value} {t : TypeId} (h : Bk w g cs t) (hb : Below n w w') (hg : g < n) : Bk w' g cs t := by
  unfold Bk at *
  rw [hb.block g hg]; exact h
/-- a Writer in another world that agrees on its blocks -/
theorem WrAt.same {base g : Nat} {s : Value} {l : List Int} {w w' : World} (h : WrAt base w g s l) (h1 : w'.heap[g]? = w.heap[g]?) (h2 : ∀ b, s.ownBlock = some b → w'.heap[b]? = w.heap[b]?) : WrAt base w' g s l :=
  ⟨h1.trans h.1, rowT_same h.2.1 h2, h.2.2⟩
/-- two Puts in a row: what the Writer of the chain holds -/
def Own2 (s s1 : Value) (lo hi : Nat) : Prop := ∀ b, s1.ownBlock = some b → s.ownBlock = some b ∨ (lo ≤ b ∧ b < hi)
theorem wrote_open {base g : Nat} {s : Value} {l : List Int} {w1 w2 : World} (h : Wrote base w1 g s l w2) : ∃ s1, WrAt base w2 g s1 l ∧ Own2 s s1 w1.heap.size w2.heap.size := by
  obtain ⟨s1, h1, -, ho⟩ := h
  refine ⟨s1, h1, fun b hb => ?_⟩
  rcases ho b hb with h | h
  · exact .inl h
  · exact .inr ⟨h, (h1.2.1.lt b hb).2⟩
theorem wrote_mutU {base g : Nat} {s : Value} {l : List Int} {w1 w2 : World} {U : Nat → Prop} (h : Wrote base w1 g s l w2) (hU : U g) (hs : ∀ b, s.ownBlock = some b → U b) : Mut U w1 w2 := by
  obtain ⟨s', -, hm, -⟩ := h
  exact hm.mono (fun x _ hx => by rcases hx with rfl | hx; exact hU; exact hs x hx)
/-- the posts of the two Puts -/
def aPutG (base g : Nat) (s : Value) (l1 : List Int) (e : Int) : Array Value → Value → World → World → Prop := fun _ v w1 w2 => v = .int .i64 e ∧ Wrote base w1 g s l1 w2
def aPutP (base g : Nat) (l1 l2 : List Int) (e : Int) : Array Value → Value → World → World → Prop := fun _ v w1 w2 => v = .int .i64 e ∧ ∃ s1, WrAt base w1 g s1 l1 ∧ Wrote base w1 g s1 l2 w2
theorem wrAt_inj {base base' g : Nat} {s s' : Value} {l l' : List Int} {w : World} (h : WrAt base w g s l) (h' : WrAt base' w g s' l') : s = s' := by
  have e1 := h.1
  have e2 := h'.1
  unfold Bk at e1 e2
  rw [e1] at e2
  simp at e2
  exact e2.1
end Go.Proofs.YtghfggfgndgkjaaGreatDoor
namespace Go.Proofs.YtghfggfgndgkjaaGreatDoor
open Go Go.RowKit Go.Sort
set_option maxRecDepth 100000
attribute [local go_sem] opLow opUpon opLow2 opUpon2 opLow3
theorem wf_i64o {n : Int} (h : (Lit.int .i64 n).wf = true) : -9223372036854775808 ≤ n ∧ n ≤ 9223372036854775807 := by
  simp [Lit.wf, IntKind.min, IntKind.max, IntKind.signed, IntKind.bits] at h
  omega
theorem wf_u8o {n : Int} (h : (Lit.int .u8 n).wf = true) : 0 ≤ n ∧ n ≤ 255 := by
  simp [Lit.wf, IntKind.min, IntKind.max, IntKind.signed, IntKind.bits] at h
  omega
abbrev GC (a b c : Int) : Array Value := #[.int .i64 a, .int .i64 b, .int .i64 c]
def tPuts (base g : Nat) (s : Value) (l1 l2 : List Int) (e1 e2 : Int) : Posts := fun f => if f = 29 then some (aPutG base g s l1 e1) else if f = 30 then some (aPutP base g l1 l2 e2) else none
/-- the call's parameters in its first world -/
structure Old (w V : World) (L1 R1 B1 L2 R2 B2 X Y : Int) : Prop where
  z : V.heap.size = w.heap.size + 1 + 1 + 1 + 1
  b : Below w.heap.size w V
  x : Bk V w.heap.size #[.int .i64 L1, .int .i64 R1, .int .i64 B1] 23
  y : Bk V (w.heap.size + 1) #[.int .i64 L2, .int .i64 R2, .int .i64 B2] 23
  v : Bk V (w.heap.size + 1 + 1) #[.int .i64 X, .int .i64 Y] 58
structure OldX (w V : World) (L1 R1 B1 L2 R2 B2 X Y : Int) : Prop where
  b : Below w.heap.size w V
  x : Bk V w.heap.size #[.int .i64 L1, .int .i64 R1, .int .i64 B1] 23
  y : Bk V (w.heap.size + 1) #[.int .i64 L2, .int .i64 R2, .int .i64 B2] 23
  v : Bk V (w.heap.size + 1 + 1) #[.int .i64 X, .int .i64 Y] 58
theorem Old.under {w V V' : World} {L1 R1 B1 L2 R2 B2 x y : Int} (h : Old w V L1 R1 B1 L2 R2 B2 x y) (hb : Below (w.heap.size + 1 + 1 + 1) V V') : OldX w V' L1 R1 B1 L2 R2 B2 x y :=
  ⟨h.b.trans (hb.mono (by omega)), h.x.under hb (by omega), h.y.under hb (by omega), h.v.under hb (by omega)⟩
/-- the blocks of a Writer -/
def SW (g : Nat) (s : Value) : Nat → Prop := fun b => b = g ∨ s.ownBlock = some b
/-- what stays behind the two Puts -/
structure Fac (w V : World) (L1 R1 B1 L2 R2 B2 X Y : Int) (gp ga gb : Nat) (S : Value) (l : List Int) : Prop where
  b0 : Below w.heap.size w V
  x : Bk V w.heap.size #[.int .i64 L1, .int .i64 R1, .int .i64 B1] 23
  y : Bk V (w.heap.size + 1) #[.int .i64 L2, .int .i64 R2, .int .i64 B2] 23
  v : Bk V (w.heap.size + 1 + 1) #[.int .i64 X, .int .i64 Y] 58
  p : Bk V gp #[.int .i64 L1, .int .i64 R1, .int .i64 B1, .int .i64 L2, .int .i64 R2, .int .i64 B2] 65
  a : Bk V ga #[.int .i64 L1, .int .i64 R1, .int .i64 B1] 27
  b : Bk V gb #[.int .i64 L2, .int .i64 R2, .int .i64 B2] 27
  wr : WrAt (w.heap.size + 1 + 1 + 1 + 1) V (w.heap.size + 1 + 1 + 1) S l
theorem Fac.below {w V V' : World} {L1 R1 B1 L2 R2 B2 x y : Int} {gp ga gb : Nat} {s : Value} {l : List Int} (h : Fac w V L1 R1 B1 L2 R2 B2 x y gp ga gb s l) (hb : Below V.heap.size V V') : Fac w V' L1 R1 B1 L2 R2 B2 x y gp ga gb s l :=
  ⟨h.b0.trans (hb.mono h.b0.size), h.x.below hb, h.y.below hb, h.v.below hb, h.p.below hb, h.a.below hb, h.b.below hb, h.wr.below hb⟩
theorem WrAt.bits {base g : Nat} {s : Value} {l : List Int} {w : World} (h : WrAt base w g s l) : IsBits l := h.2.2
theorem put_one (base g : Nat) (s : Value) (i : Nat) (w : World) (h : WrAt base w g s (ones i)) (hi : i < 70) (hbg : base ≤ w.heap.size) :
    Calls Tryz.prog 28 #[.pointer (some ⟨g, 0, none⟩), .int .u64 1, .int .i64 1] w fun e w' => e = .returned (.int .i64 0) ∧ Wrote base w g s (ones (i + 1)) w' := by
  have := wput_any base g s (ones i) 1 1 w h (by decide) (by decide) (by decide) (by rw [ones_length]; omega) hbg
  rw [ones_succ] at this
  exact this
theorem wrote_under {base g n : Nat} {s : Value} {l l1 : List Int} {w w' : World} (h : WrAt base w g s l) (hw : Wrote base w g s l1 w') (hn : n ≤ g) (hb : n ≤ base) : Below n w w' := by
  obtain ⟨s1, -, hm, -⟩ := hw
  refine hm.below (Nat.le_trans hn (Nat.le_of_lt h.1.lt)) (fun b hb' hu => ?_)
  rcases hu with rfl | hu
  · omega
  · have := (h.2.1.lt b hu).1
    omega
theorem rget_i (r gb t : Nat) (b : Int) (L : List Int) (w : World) (h : RdT w r gb L t) (hL : Byt L) (hb : 0 ≤ b ∧ b ≤ 63) :
    Calls Tryz.prog 36 #[.pointer (some ⟨r, 0, none⟩), .int .i64 b] w fun e w' => e = .returned (.tuple #[.int .u64 (rvv L t b.toNat), .int .i64 (ree L t b.toNat)]) ∧ GotT w r gb L (t + b.toNat) w' := by
  obtain ⟨k, rfl⟩ := nat_of hb.1
  exact rget_t r gb t k L w h hL (by omega)
theorem rget_1 (r gb t : Nat) (L : List Int) (w : World) (h : RdT w r gb L t) (hL : Byt L) :
    Calls Tryz.prog 36 #[.pointer (some ⟨r, 0, none⟩), .int .i64 1] w fun e w' => e = .returned (.tuple #[.int .u64 (rvv L t 1), .int .i64 (ree L t 1)]) ∧ GotT w r gb L (t + 1) w' :=
  rget_t r gb t 1 L w h hL (by decide)
theorem RdT.mut {U : Nat → Prop} {w w' : World} {r gb t : Nat} {L : List Int} (h : RdT w r gb L t) (hm : Mut U w w') (h1 : ¬ U r) (h2 : ¬ U gb) (hg : gb < w.heap.size) : RdT w' r gb L t :=
  h.same (hm.block r h.lt h1) (hm.block gb hg h2)
/-- the two Readers of a turn -/
structure Two (V0 V : World) (r' gr s' gs : Nat) (L : List Int) (t u : Nat) : Prop where
  r : RdT V r' gr L t
  s : RdT V s' gs L u
  b : Below V0.heap.size V0 V
  lr : gr < V.heap.size
  ls : gs < V.heap.size
  zr : V0.heap.size ≤ r'
  zs : V0.heap.size ≤ s'
  n1 : r' ≠ s'
  n2 : gr ≠ s'
  n3 : gs ≠ r'
theorem Two.getR {V0 V V' : World} {r gr s gs t t' u : Nat} {L : List Int} (h : Two V0 V r gr s gs L t u) (hg : GotT V r gr L t' V') : Two V0 V' r gr s gs L t' u :=
  ⟨hg.1, h.s.mut hg.2 (fun e => h.n1 e.symm) h.n3 h.ls, h.b.trans (hg.2.below h.b.size (fun b hb e => by have := h.zr; omega)), Nat.lt_of_lt_of_le h.lr hg.2.size, Nat.lt_of_lt_of_le h.ls hg.2.size, h.zr, h.zs, h.n1, h.n2, h.n3⟩
theorem Two.getS {V0 V V' : World} {r gr s gs t u u' : Nat} {L : List Int} (h : Two V0 V r gr s gs L t u) (hg : GotT V s gs L u' V') : Two V0 V' r gr s gs L t u' :=
  ⟨h.r.mut hg.2 h.n1 h.n2 h.lr, hg.1, h.b.trans (hg.2.below h.b.size (fun b hb e => by have := h.zs; omega)), Nat.lt_of_lt_of_le h.lr hg.2.size, Nat.lt_of_lt_of_le h.ls hg.2.size, h.zr, h.zs, h.n1, h.n2, h.n3⟩
theorem Two.later {V0 V V' : World} {r gr s gs t u : Nat} {L : List Int} (h : Two V0 V r gr s gs L t u) (hb : Below V.heap.size V V') : Two V0 V' r gr s gs L t u :=
  ⟨h.r.below hb, h.s.below hb, h.b.trans (hb.mono h.b.size), Nat.lt_of_lt_of_le h.lr hb.size, Nat.lt_of_lt_of_le h.ls hb.size, h.zr, h.zs, h.n1, h.n2, h.n3⟩
theorem two_made {V0 V1 V2 V3 : World} {r gr s gs : Nat} {L : List Int} (b0 : Below V0.heap.size V0 V1) (r1 : V1.heap.size ≤ r) (r2 : V1.heap.size ≤ gr) (r3 : gr < V2.heap.size) (hr : RdT V2 r gr L 0) (b1 : Below V1.heap.size V1 V2)
    (s1 : V2.heap.size ≤ s) (s2 : V2.heap.size ≤ gs) (s3 : gs < V3.heap.size) (hs : RdT V3 s gs L 0) (b2 : Below V2.heap.size V2 V3) : Two V0 V3 r gr s gs L 0 0 := by
  have h1 := hr.lt
  have h2 := b0.size
  have h3 := b1.size
  have h4 := b2.size
  exact ⟨hr.below b2, hs, b0.trans ((b1.mono h2).trans (b2.mono (Nat.le_trans h2 h3))), by omega, s3, by omega, by omega, by omega, by omega, by omega⟩
theorem len_is {base g m : Nat} {s : Value} {l : List Int} {w : World} (z : Int) (h : WrAt base w g s l) (hm : l.length = m) (hz : (m : Int) = z) :
    Calls Tryz.prog 32 #[.pointer (some ⟨g, 0, none⟩)] w fun e w' => e = .returned (.int .i64 z) ∧ Below w.heap.size w w' := by
  subst hz
  subst hm
  exact len_any base g s l w h
end Go.Proofs.YtghfggfgndgkjaaGreatDoor
