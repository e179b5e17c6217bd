/- store.bitOf and store.Mask. -/
import Derived.Test.YtlcjkomfjgddeaaGreatDoorM38
set_option linter.unusedVariables false
set_option linter.unusedSimpArgs false
namespace Go.Proofs.YtlcjkomfjgddeaaGreatDoor
open Go Go.RowKit Go.Sort
set_option maxRecDepth 100000
attribute [local go_sem] opLow opUpon opLow2 opUpon2

/-- the bit of a kind -/
def bitM (k : Int) : Int := if 1 ≤ k ∧ k ≤ 10 then 2 ^ k.toNat else 0
theorem bitOf_any (k : Int) (hk : 0 ≤ k ∧ k ≤ 255) (w : World) : Calls Tryz.prog 55 #[.int .u8 k] w fun e w' => e = .returned (.int .u32 (bitM k)) ∧ Below w.heap.size w w' := by
  by_cases h1 : k < 1
  · have e0 : bitM k = 0 := by unfold bitM; rw [if_neg (by omega)]
    rw [e0]
    have d1 : decide (k < 1) = true := decide_eq_true h1
    clear h1
    go_enter Tryz.func55, Tryz.ntmps55
    go_wp2
    go_returns
    exact ⟨rfl, by go_grown⟩
  · by_cases h2 : 10 < k
    · have e0 : bitM k = 0 := by unfold bitM; rw [if_neg (by omega)]
      rw [e0]
      have d1 : decide (k < 1) = false := decide_eq_false h1
      have d2 : decide (k > 10) = true := decide_eq_true h2
      have d3 : decide (10 < k) = true := decide_eq_true h2
      clear h1 h2
      go_enter Tryz.func55, Tryz.ntmps55
      go_wp2
      go_returns
      exact ⟨rfl, by go_grown⟩
    · have h3 : k = 1 ∨ k = 2 ∨ k = 3 ∨ k = 4 ∨ k = 5 ∨ k = 6 ∨ k = 7 ∨ k = 8 ∨ k = 9 ∨ k = 10 := by omega
      rcases h3 with rfl | rfl | rfl | rfl | rfl | rfl | rfl | rfl | rfl | rfl <;>
        (go_enter Tryz.func55, Tryz.ntmps55
         go_wp2
         go_returns
         exact ⟨rfl, by go_grown⟩)
def maskTo (cs : List Cmp) : Nat → Int
  | 0 => 0
  | n + 1 => bits BinOp.or IntKind.u32 (maskTo cs n) (bitM ((cs[n]?.map Cmp.k).getD 0))
def maskM (cs : List Cmp) : Int := maskTo cs cs.length
theorem maskTo_kinds {cs ds : List Cmp} (h : cs.map Cmp.k = ds.map Cmp.k) : ∀ n, maskTo cs n = maskTo ds n
  | 0 => rfl
  | n + 1 => by
    have e : cs[n]?.map Cmp.k = ds[n]?.map Cmp.k := by rw [← List.getElem?_map, ← List.getElem?_map, h]
    rw [maskTo, maskTo, maskTo_kinds h n, e]
theorem maskM_kinds {cs ds : List Cmp} (h : cs.map Cmp.k = ds.map Cmp.k) : maskM cs = maskM ds := by
  have hl : cs.length = ds.length := by have := congrArg List.length h; simpa using this
  unfold maskM
  rw [hl, maskTo_kinds h]
set_option maxHeartbeats 4000000 in
theorem mask_any (e : Ent) (a : Option Addr) (n c : Nat) (w : World) (h : CompsAt w (.slice a n c) e.cs) :
    Calls Tryz.prog 25 #[.agg #[.int .i64 e.id, .slice a n c]] w fun r w' => r = .returned (.int .u32 (maskM e.cs)) ∧ Below w.heap.size w w' := by
  have hn : n = e.cs.length := ListAt.len h
  have hm : n < 1099511627776 := by rw [hn]; exact (CompsAt.kinds h).2
  have HL := Lib.hid hn
  have HH := Lib.hid h
  clear hn h
  go_enter Tryz.func25, Tryz.ntmps25
  go_wp2
  go_loopw [3, 9] (fun v3 v9 wr => ∃ (k : Nat) (m : Int), (k ≤ n ∧ v9 = .int .i64 k) ∧ (Hid (maskTo e.cs k = m) ∧ v3 = .int .u32 m) ∧ Bk wr w.heap.size #[.int .i64 e.id, .slice a n c] 43 ∧ Below w.heap.size w wr) (fun v3 v9 _ => n - (intOf v9).toNat)
  case atStart => exact ⟨0, 0, ⟨by omega, rfl⟩, ⟨Lib.hid rfl, rfl⟩, Bk.made _ _ _, by go_grown⟩
  case round =>
    obtain ⟨k, m, ⟨hk, rfl⟩, ⟨HM, rfl⟩, B1, hb⟩ := hrel
    by_cases hlt : k < n
    · obtain ⟨x, hx⟩ := at_lt (l := e.cs) (i := k) (by rw [← HL.out]; exact hlt)
      rcases HH.out with ⟨h1, h2⟩ | ⟨b, off, cap, h1, hl, hc⟩
      · rw [h2] at hx; cases hx
      injection h1 with w1 w2 w3
      subst w1 w3
      obtain ⟨⟨x0, x1, x2, x3, x4⟩, xk⟩ := hc k x hx
      have hnx : maskTo e.cs (k + 1) = bits BinOp.or IntKind.u32 m (bitM x.k) := by rw [maskTo, HM.out, hx]; rfl
      have HNX := Lib.hid hnx
      have BO := Lib.hid (fun V => bitOf_any x.k xk V)
      have hs := hb.size
      replace x0 := cell_later hb x0
      replace x1 := cell_later hb x1
      replace x2 := cell_later hb x2
      replace x3 := cell_later hb x3
      replace x4 := cell_later hb x4
      have HB := Lib.hid (And.intro B1 (And.intro hb hs))
      clear hc hl hx w2 hnx B1 hb hs
      go_wp2_with fail
      refine (BO.out _).mono ?_
      rintro r V ⟨rfl, hb2⟩
      have HB2 := Lib.hid (And.intro ((HB.out.1.alloc _).below hb2) (below_cc hb2 (HB.out.2.1.alloc HB.out.2.2 _)).1)
      clear hb2 HB BO x0 x1 x2 x3 x4
      go_wp2
      go_roundw
      case rel => exact ⟨k + 1, _, ⟨by omega, by go_num⟩, ⟨HNX, rfl⟩, HB2.out.1, HB2.out.2⟩
      case measure => simp [intOf]; omega
    · obtain rfl : k = n := by omega
      have hfin : maskM e.cs = m := by unfold maskM; rw [← HL.out]; exact HM.out
      have HFIN := Lib.hid hfin
      clear hfin
      go_wp2
      go_returns
      exact ⟨by rw [HFIN.out]; rfl, hb⟩
end Go.Proofs.YtlcjkomfjgddeaaGreatDoor
