/- The builtins min and max of two integers, as one step of the walk: no case split. -/
import Derived.Test.YtjjodmkblpdnhaaDoorWords
import Derived.BigFrame
set_option linter.unusedVariables false
set_option linter.unusedSimpArgs false
namespace Go.Proofs.YtjjodmkblpdnhaaDoor
open Go.RowKit

theorem wpList_min2 {P : Program} (w : World) {ops : Array Oper} {rest : List Oper} {o : Oper} {a : Act} {Q : Exit → Act → World → Prop}
    (hg : o.guard = none) (x y : Operand) (ats : Array TypeId) (hop : o.op = Op.call { callee := Callee.builtin Builtin.min, args := #[x, y], argTypes := ats }) (k : IntKind) (m n : Int) (hx : a.eval x = .int k m) (hy : a.eval y = .int k n)
    (h : wpList P ops Q rest (a.put o.dst (.int k (min m n))) w) : wpList P ops Q (o :: rest) a w := by
  refine wpList_plain hg fun K hK' => ?_
  have e : (if n < m then n else m) = min m n := by split <;> omega
  unfold Oper.wp
  simp [execOp, hop, resolve, invoke, builtin, hx, hy, Builtin.min_, Builtin.min2, Result.andThen, e]
  exact hK' _ _ h
theorem wpList_max2 {P : Program} (w : World) {ops : Array Oper} {rest : List Oper} {o : Oper} {a : Act} {Q : Exit → Act → World → Prop}
    (hg : o.guard = none) (x y : Operand) (ats : Array TypeId) (hop : o.op = Op.call { callee := Callee.builtin Builtin.max, args := #[x, y], argTypes := ats }) (k : IntKind) (m n : Int) (hx : a.eval x = .int k m) (hy : a.eval y = .int k n)
    (h : wpList P ops Q rest (a.put o.dst (.int k (max m n))) w) : wpList P ops Q (o :: rest) a w := by
  refine wpList_plain hg fun K hK' => ?_
  have e : (if m < n then n else m) = max m n := by split <;> omega
  unfold Oper.wp
  simp [execOp, hop, resolve, invoke, builtin, hx, hy, Builtin.max_, Builtin.max2, Result.andThen, e]
  exact hK' _ _ h
end Go.Proofs.YtjjodmkblpdnhaaDoor
