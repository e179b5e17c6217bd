/- interp.Between: what it rejects; the end of the way. -/
import Derived.Test.YtjjodmkblpdnhaaDoorInterp2
set_option linter.unusedVariables false
set_option linter.unusedSimpArgs false
namespace Go.Proofs.YtjjodmkblpdnhaaDoor
open Go Go.RowKit Go.Sort
set_option maxRecDepth 100000
attribute [local go_sem] opLow opUpon opLow2 opUpon2

/-- what Between takes -/
def okB (A B : Wld) (n d : Int) : Prop := Valid A ∧ Valid B ∧ A.t < B.t ∧ (1 ≤ d ∧ d ≤ 34359738368) ∧ (0 ≤ n ∧ n ≤ d)
instance decOkB (A B : Wld) (n d : Int) : Decidable (okB A B n d) := by unfold okB; infer_instance
/-- the boxes of Between's frame -/
structure BB (w0 w : World) (s : Nat) (ta tb n d : Int) (a b : Option Addr) (an ac bn bc : Nat) : Prop where
  pa : Bk w s #[.int .i64 ta, .slice a an ac] 27
  pb : Bk w (s + 1) #[.int .i64 tb, .slice b bn bc] 27
  pn : Bk w (s + 1 + 1) #[.int .i64 n] 3
  pd : Bk w (s + 1 + 1 + 1) #[.int .i64 d] 3
  pr : Bk w (s + 1 + 1 + 1 + 1) #[.int .i64 0, .slice none 0 0] 27
  bel : Below s w0 w
theorem BB.later {w0 w w' : World} {s : Nat} {ta tb n d : Int} {a b : Option Addr} {an ac bn bc : Nat} (h : BB w0 w s ta tb n d a b an ac bn bc) (hs : s = w0.heap.size) (hb : Below w.heap.size w w') : BB w0 w' s ta tb n d a b an ac bn bc :=
  ⟨h.pa.below hb, h.pb.below hb, h.pn.below hb, h.pd.below hb, h.pr.below hb, by subst hs; exact (below_c hb h.bel).1⟩
theorem Fresh.mono {base base' : Nat} {w : World} {v : Value} {es : List Ent} (h : Fresh base w v es) (hb : base' ≤ base) : Fresh base' w v es := by
  obtain ⟨hl, ss, h1, h2, h3, h4⟩ := h
  refine ⟨hl, ss, h1, ⟨h2.1, ?_⟩, fun i s e hs he => (h3 i s e hs he).mono hb, h4⟩
  rcases h2.2 with h5 | ⟨g, cap, cur, hv, hg, r⟩
  · exact .inl h5
  · exact .inr ⟨g, cap, cur, hv, Nat.le_trans hb hg, r⟩
theorem wpL_name {P : Program} {ops : Array Oper} {Q : Exit → Act → World → Prop} {rest : List Oper} {a : Act} {w : World} (R : World → Prop) (h : R w) (hK : ∀ V, R V → wpList P ops Q rest a V) : wpList P ops Q rest a w := hK w h
set_option maxHeartbeats 8000000 in
theorem between_bad (A B : Wld) (n d : Int) (a b : Option Addr) (an ac bn bc : Nat) (w : World) (hR : RG w) (hA : EntsAt w (.slice a an ac) A.es) (hBs : EntsAt w (.slice b bn bc) B.es) (hno : ¬ okB A B n d) :
    Calls Tryd.prog 17 #[Wv A.t a an ac, Wv B.t b bn bc, .int .i64 n, .int .i64 d] w fun e w' => e = .returned (.tuple #[Wv 0 none 0 0, .int .i64 2]) ∧ Below w.heap.size w w' := by
  have HN := Lib.hid hno
  clear hno
  obtain ⟨vA, hvA⟩ : ∃ v, decide (Valid A) = v := ⟨_, rfl⟩
  obtain ⟨vB, hvB⟩ : ∃ v, decide (Valid B) = v := ⟨_, rfl⟩
  have HV := Lib.hid (And.intro hvA hvB)
  clear hvA hvB
  go_enter Tryd.func17, Tryd.ntmps17
  go_wp2_with fail
  refine Calls.mono (valid_any A a an ac _ (hR.below (by go_grown)) (hA.below (by go_grown))) ?_
  rw [HV.out.1]
  rintro e W1 ⟨rfl, hb1⟩
  have hB : BB w W1 w.heap.size A.t B.t n d a b an ac bn bc := BB.later ⟨((((Bk.at_ (by simp)).alloc _).alloc _).alloc _).alloc _, (((Bk.at_ (by simp)).alloc _).alloc _).alloc _, ((Bk.at_ (by simp)).alloc _).alloc _, (Bk.at_ (by simp)).alloc _, Bk.at_ (by simp), by go_grown⟩ rfl hb1
  clear hb1
  have a0 := hB.pa.cell (v := .int .i64 A.t) 0 rfl
  have a1 := hB.pa.cell (v := .slice a an ac) 1 rfl
  have b0 := hB.pb.cell (v := .int .i64 B.t) 0 rfl
  have b1 := hB.pb.cell (v := .slice b bn bc) 1 rfl
  have n0 := hB.pn.cell (v := .int .i64 n) 0 rfl
  have d0 := hB.pd.cell (v := .int .i64 d) 0 rfl
  have r0 := hB.pr.cell (v := .int .i64 0) 0 rfl
  have r1 := hB.pr.cell (v := .slice none 0 0) 1 rfl
  have f0 := hB.pr.free 0
  have f1 := hB.pr.free 1
  cases vA
  · have hgg := hB.bel
    go_wp2
    refine post_name (fun V => Bk V (w.heap.size + 1 + 1 + 1 + 1) #[.int .i64 0, .slice none 0 0] 27 ∧ Below w.heap.size w V) ⟨(hB.pr.put 0 _).put 1 _, by go_grown⟩ ?_
    rintro V ⟨BV, hbV⟩
    clear a0 a1 b0 b1 n0 d0 r0 r1 f0 f1
    have y0 := BV.cell (v := .int .i64 0) 0 rfl
    have y1 := BV.cell (v := .slice none 0 0) 1 rfl
    exact bodyPost_ret (v := .tuple #[Wv 0 none 0 0, .int .i64 2]) (by simp [results, Tryd.results17, go_sem, y0, y1]; try rfl) rfl ⟨rfl, hbV⟩
  · go_wp2_with fail
    refine Calls.mono (valid_any B b bn bc _ (hR.below hB.bel) (hBs.below hB.bel)) ?_
    rw [HV.out.2]
    rintro e W2 ⟨rfl, hb2⟩
    replace hB := hB.later rfl hb2
    clear a0 a1 b0 b1 n0 d0 r0 r1 f0 f1 hb2
    have a0 := hB.pa.cell (v := .int .i64 A.t) 0 rfl
    have a1 := hB.pa.cell (v := .slice a an ac) 1 rfl
    have b0 := hB.pb.cell (v := .int .i64 B.t) 0 rfl
    have b1 := hB.pb.cell (v := .slice b bn bc) 1 rfl
    have n0 := hB.pn.cell (v := .int .i64 n) 0 rfl
    have d0 := hB.pd.cell (v := .int .i64 d) 0 rfl
    have r0 := hB.pr.cell (v := .int .i64 0) 0 rfl
    have r1 := hB.pr.cell (v := .slice none 0 0) 1 rfl
    have f0 := hB.pr.free 0
    have f1 := hB.pr.free 1
    cases vB
    · have hgg := hB.bel
      go_wp2
      refine post_name (fun V => Bk V (w.heap.size + 1 + 1 + 1 + 1) #[.int .i64 0, .slice none 0 0] 27 ∧ Below w.heap.size w V) ⟨(hB.pr.put 0 _).put 1 _, by go_grown⟩ ?_
      rintro V ⟨BV, hbV⟩
      clear a0 a1 b0 b1 n0 d0 r0 r1 f0 f1
      have y0 := BV.cell (v := .int .i64 0) 0 rfl
      have y1 := BV.cell (v := .slice none 0 0) 1 rfl
      exact bodyPost_ret (v := .tuple #[Wv 0 none 0 0, .int .i64 2]) (by simp [results, Tryd.results17, go_sem, y0, y1]; try rfl) rfl ⟨rfl, hbV⟩
    · by_cases h1 : A.t < B.t
      · by_cases h2 : 1 ≤ d
        · by_cases h3 : d ≤ 34359738368
          · by_cases h4 : 0 ≤ n
            · have h5 : ¬ n ≤ d := fun h5 => HN.out ⟨of_decide_eq_true HV.out.1, of_decide_eq_true HV.out.2, h1, ⟨h2, h3⟩, h4, h5⟩
              have hgg := hB.bel
              go_wp2
              refine post_name (fun V => Bk V (w.heap.size + 1 + 1 + 1 + 1) #[.int .i64 0, .slice none 0 0] 27 ∧ Below w.heap.size w V) ⟨(hB.pr.put 0 _).put 1 _, by go_grown⟩ ?_
              rintro V ⟨BV, hbV⟩
              clear a0 a1 b0 b1 n0 d0 r0 r1 f0 f1
              have y0 := BV.cell (v := .int .i64 0) 0 rfl
              have y1 := BV.cell (v := .slice none 0 0) 1 rfl
              exact bodyPost_ret (v := .tuple #[Wv 0 none 0 0, .int .i64 2]) (by simp [results, Tryd.results17, go_sem, y0, y1]; try rfl) rfl ⟨rfl, hbV⟩
            · have hgg := hB.bel
              go_wp2
              refine post_name (fun V => Bk V (w.heap.size + 1 + 1 + 1 + 1) #[.int .i64 0, .slice none 0 0] 27 ∧ Below w.heap.size w V) ⟨(hB.pr.put 0 _).put 1 _, by go_grown⟩ ?_
              rintro V ⟨BV, hbV⟩
              clear a0 a1 b0 b1 n0 d0 r0 r1 f0 f1
              have y0 := BV.cell (v := .int .i64 0) 0 rfl
              have y1 := BV.cell (v := .slice none 0 0) 1 rfl
              exact bodyPost_ret (v := .tuple #[Wv 0 none 0 0, .int .i64 2]) (by simp [results, Tryd.results17, go_sem, y0, y1]; try rfl) rfl ⟨rfl, hbV⟩
          · have hgg := hB.bel
            go_wp2
            refine post_name (fun V => Bk V (w.heap.size + 1 + 1 + 1 + 1) #[.int .i64 0, .slice none 0 0] 27 ∧ Below w.heap.size w V) ⟨(hB.pr.put 0 _).put 1 _, by go_grown⟩ ?_
            rintro V ⟨BV, hbV⟩
            clear a0 a1 b0 b1 n0 d0 r0 r1 f0 f1
            have y0 := BV.cell (v := .int .i64 0) 0 rfl
            have y1 := BV.cell (v := .slice none 0 0) 1 rfl
            exact bodyPost_ret (v := .tuple #[Wv 0 none 0 0, .int .i64 2]) (by simp [results, Tryd.results17, go_sem, y0, y1]; try rfl) rfl ⟨rfl, hbV⟩
        · have hgg := hB.bel
          go_wp2
          refine post_name (fun V => Bk V (w.heap.size + 1 + 1 + 1 + 1) #[.int .i64 0, .slice none 0 0] 27 ∧ Below w.heap.size w V) ⟨(hB.pr.put 0 _).put 1 _, by go_grown⟩ ?_
          rintro V ⟨BV, hbV⟩
          clear a0 a1 b0 b1 n0 d0 r0 r1 f0 f1
          have y0 := BV.cell (v := .int .i64 0) 0 rfl
          have y1 := BV.cell (v := .slice none 0 0) 1 rfl
          exact bodyPost_ret (v := .tuple #[Wv 0 none 0 0, .int .i64 2]) (by simp [results, Tryd.results17, go_sem, y0, y1]; try rfl) rfl ⟨rfl, hbV⟩
      · have hgg := hB.bel
        go_wp2
        refine post_name (fun V => Bk V (w.heap.size + 1 + 1 + 1 + 1) #[.int .i64 0, .slice none 0 0] 27 ∧ Below w.heap.size w V) ⟨(hB.pr.put 0 _).put 1 _, by go_grown⟩ ?_
        rintro V ⟨BV, hbV⟩
        clear a0 a1 b0 b1 n0 d0 r0 r1 f0 f1
        have y0 := BV.cell (v := .int .i64 0) 0 rfl
        have y1 := BV.cell (v := .slice none 0 0) 1 rfl
        exact bodyPost_ret (v := .tuple #[Wv 0 none 0 0, .int .i64 2]) (by simp [results, Tryd.results17, go_sem, y0, y1]; try rfl) rfl ⟨rfl, hbV⟩
set_option maxHeartbeats 8000000 in
theorem between_end (A B : Wld) (n d : Int) (a b : Option Addr) (an ac bn bc : Nat) (w : World) (hR : RG w) (hA : EntsAt w (.slice a an ac) A.es) (hBs : EntsAt w (.slice b bn bc) B.es) (hok : okB A B n d) (hnd : n = d) :
    Calls Tryd.prog 17 #[Wv A.t a an ac, Wv B.t b bn bc, .int .i64 n, .int .i64 d] w fun e w' => ∃ a' n' c', e = .returned (.tuple #[Wv B.t a' n' c', .int .i64 0]) ∧ Fresh w.heap.size w' (.slice a' n' c') B.es ∧ Below w.heap.size w w' := by
  subst hnd
  obtain ⟨vA, vB, h1, ⟨h2, h3⟩, h4, h5⟩ := hok
  have HVA := Lib.hid (show decide (Valid A) = true from decide_eq_true vA)
  have HVB := Lib.hid (show decide (Valid B) = true from decide_eq_true vB)
  clear vA vB
  go_enter Tryd.func17, Tryd.ntmps17
  go_wp2_with fail
  refine Calls.mono (valid_any A a an ac _ (hR.below (by go_grown)) (hA.below (by go_grown))) ?_
  rw [HVA.out]
  rintro e W1 ⟨rfl, hb1⟩
  have hB : BB w W1 w.heap.size A.t B.t n n a b an ac bn bc := BB.later ⟨((((Bk.at_ (by simp)).alloc _).alloc _).alloc _).alloc _, (((Bk.at_ (by simp)).alloc _).alloc _).alloc _, ((Bk.at_ (by simp)).alloc _).alloc _, (Bk.at_ (by simp)).alloc _, Bk.at_ (by simp), by go_grown⟩ rfl hb1
  clear hb1
  have a0 := hB.pa.cell (v := .int .i64 A.t) 0 rfl
  have a1 := hB.pa.cell (v := .slice a an ac) 1 rfl
  have b0 := hB.pb.cell (v := .int .i64 B.t) 0 rfl
  have b1 := hB.pb.cell (v := .slice b bn bc) 1 rfl
  have n0 := hB.pn.cell (v := .int .i64 n) 0 rfl
  have d0 := hB.pd.cell (v := .int .i64 n) 0 rfl
  have r0 := hB.pr.cell (v := .int .i64 0) 0 rfl
  have r1 := hB.pr.cell (v := .slice none 0 0) 1 rfl
  have f0 := hB.pr.free 0
  have f1 := hB.pr.free 1
  go_wp2_with fail
  refine Calls.mono (valid_any B b bn bc _ (hR.below hB.bel) (hBs.below hB.bel)) ?_
  rw [HVB.out]
  rintro e W2 ⟨rfl, hb2⟩
  replace hB := hB.later rfl hb2
  clear a0 a1 b0 b1 n0 d0 r0 r1 f0 f1 hb2
  have a0 := hB.pa.cell (v := .int .i64 A.t) 0 rfl
  have a1 := hB.pa.cell (v := .slice a an ac) 1 rfl
  have b0 := hB.pb.cell (v := .int .i64 B.t) 0 rfl
  have b1 := hB.pb.cell (v := .slice b bn bc) 1 rfl
  have n0 := hB.pn.cell (v := .int .i64 n) 0 rfl
  have d0 := hB.pd.cell (v := .int .i64 n) 0 rfl
  have r0 := hB.pr.cell (v := .int .i64 0) 0 rfl
  have r1 := hB.pr.cell (v := .slice none 0 0) 1 rfl
  have f0 := hB.pr.free 0
  have f1 := hB.pr.free 1
  go_wp2_with fail
  refine Calls.mono (own_any B b bn bc _ (hBs.below hB.bel)) ?_
  rintro e W3 ⟨a', n', c', rfl, hF, hb3⟩
  replace hF : Fresh w.heap.size W3 (.slice a' n' c') B.es := hF.mono hB.bel.size
  replace hB := hB.later rfl hb3
  clear a0 a1 b0 b1 n0 d0 r0 r1 f0 f1 hb3
  have a0 := hB.pa.cell (v := .int .i64 A.t) 0 rfl
  have a1 := hB.pa.cell (v := .slice a an ac) 1 rfl
  have b0 := hB.pb.cell (v := .int .i64 B.t) 0 rfl
  have b1 := hB.pb.cell (v := .slice b bn bc) 1 rfl
  have n0 := hB.pn.cell (v := .int .i64 n) 0 rfl
  have d0 := hB.pd.cell (v := .int .i64 n) 0 rfl
  have r0 := hB.pr.cell (v := .int .i64 0) 0 rfl
  have r1 := hB.pr.cell (v := .slice none 0 0) 1 rfl
  have f0 := hB.pr.free 0
  have f1 := hB.pr.free 1
  have hgg := hB.bel
  go_wp2
  refine post_name (fun V => Bk V (w.heap.size + 1 + 1 + 1 + 1) #[.int .i64 B.t, .slice a' n' c'] 27 ∧ Fresh w.heap.size V (.slice a' n' c') B.es ∧ Below w.heap.size w V) ⟨(hB.pr.put 0 _).put 1 _, (hF.set (p := ⟨w.heap.size + 1 + 1 + 1 + 1, 0, none⟩) hB.pr (by decide) (by decide) _).set (p := ⟨w.heap.size + 1 + 1 + 1 + 1, 1, none⟩) (hB.pr.put 0 _) (by decide) (by decide) _, by go_grown⟩ ?_
  rintro V ⟨BV, hFV, hbV⟩
  clear a0 a1 b0 b1 n0 d0 r0 r1 f0 f1
  have y0 := BV.cell (v := .int .i64 B.t) 0 rfl
  have y1 := BV.cell (v := .slice a' n' c') 1 rfl
  exact bodyPost_ret (v := .tuple #[Wv B.t a' n' c', .int .i64 0]) (by simp [results, Tryd.results17, go_sem, y0, y1]; try rfl) rfl ⟨a', n', c', rfl, hFV, hbV⟩
end Go.Proofs.YtjjodmkblpdnhaaDoor
