/- The builtin min as a step of the one walk of a region. -/
import Derived.Test.YtolifgjkejhlhaaVLaw
set_option linter.unusedVariables false
set_option linter.unusedSimpArgs false
namespace Go.Proofs.Ytolifgjkejhlhaa
open Go Go.RowKit Go.Sort
theorem low_min {P : Program} {ops : Array Oper} {w0 : World} {Lq : Made → Act → Prop} {k : Nat} {o : Oper} {rest : List Oper} {Γ : Made} {a : Act} (x y : Operand) (ats : Array TypeId) (hw : Region.wanted o (yielded ops a.tmps) = true)
    (hop : o.op = Op.call { callee := Callee.builtin Builtin.min, args := #[x, y], argTypes := ats }) (kd : IntKind) (m n : Int) (hx : a.eval x = .int kd m) (hy : a.eval y = .int kd n)
    (h : wpLow P ops w0 Lq (k + 1) rest Γ (a.put o.dst (.int kd (min m n)))) : wpLow P ops w0 Lq k (o :: rest) Γ a := by
  refine ⟨.quiet (.int kd (min m n)), .inl ⟨hw, fun w hC => ?_⟩, h⟩
  have e : (if n < m then n else m) = min m n := by split <;> omega
  simp [execOp, hop, resolve, invoke, builtin, hx, hy, Builtin.min_, Builtin.min2, Result.andThen, e, quietUpon]
theorem vlimit_is (ax ay m x y : Int) (h : (I64 ax ∧ I64 ay ∧ I64 m) ∧ wst ax (vfar ax ay) m = x ∧ wst ay (vfar ax ay) m = y) (w : World) :
    Calls Try.prog 56 #[V ax ay, .int .i64 m] w fun e w' => e = .returned (V x y) ∧ Below w.heap.size w w' := by
  obtain ⟨⟨h1, h2, h3⟩, rfl, rfl⟩ := h; exact vlimit_any ax ay m h1 h2 h3 w
theorem vclamp_is (ax ay bx b' cx cy x y : Int) (h : min cx (max ax bx) = x ∧ min cy (max ay b') = y) (w : World) :
    Calls Try.prog 58 #[V ax ay, V bx b', V cx cy] w fun e w' => e = .returned (V x y) ∧ Below w.heap.size w w' := by
  obtain ⟨rfl, rfl⟩ := h; exact vclamp_any ax ay bx b' cx cy w
theorem far_is (ax ay bx b' v : Int) (h : ((-4194304 ≤ ax ∧ ax ≤ 4194304) ∧ (-4194304 ≤ ay ∧ ay ≤ 4194304) ∧ (-4194304 ≤ bx ∧ bx ≤ 4194304) ∧ (-4194304 ≤ b' ∧ b' ≤ 4194304)) ∧ vfar (ax - bx) (ay - b') = v) (w : World) :
    Calls Try.prog 57 #[V ax ay, V bx b'] w fun e w' => e = .returned (.int .i64 v) ∧ Below w.heap.size w w' := by
  obtain ⟨⟨h1, h2, h3, h4⟩, rfl⟩ := h; exact far_any ax ay bx b' h1 h2 h3 h4 w
end Go.Proofs.Ytolifgjkejhlhaa
