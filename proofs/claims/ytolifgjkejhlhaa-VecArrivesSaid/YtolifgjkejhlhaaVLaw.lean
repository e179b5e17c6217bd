/- Contracts of package vec at named results. -/
import Derived.Test.YtolifgjkejhlhaaVec3
set_option linter.unusedVariables false
set_option linter.unusedSimpArgs false
namespace Go.Proofs.Ytolifgjkejhlhaa
open Go Go.RowKit Go.Sort

theorem vadd_is (a b c d x y : Int) (h : (I64 a ∧ I64 b ∧ I64 c ∧ I64 d) ∧ sat (a + c) = x ∧ sat (b + d) = y) (w : World) :
    Calls Try.prog 48 #[V a b, V c d] w fun e w' => e = .returned (V x y) ∧ Below w.heap.size w w' := by
  obtain ⟨⟨h1, h2, h3, h4⟩, rfl, rfl⟩ := h; exact vadd_any a b c d h1 h2 h3 h4 w
theorem vsub_is (a b c d x y : Int) (h : (I64 a ∧ I64 b ∧ I64 c ∧ I64 d) ∧ sat (a - c) = x ∧ sat (b - d) = y) (w : World) :
    Calls Try.prog 51 #[V a b, V c d] w fun e w' => e = .returned (V x y) ∧ Below w.heap.size w w' := by
  obtain ⟨⟨h1, h2, h3, h4⟩, rfl, rfl⟩ := h; exact vsub_any a b c d h1 h2 h3 h4 w
theorem world_is (x y p q : Int) (h : ((-2147483648 ≤ x ∧ x ≤ 2147483647) ∧ (-2147483648 ≤ y ∧ y ≤ 2147483647)) ∧ wco x = p ∧ wco y = q) (w : World) :
    Calls Try.prog 46 #[.int .i32 x, .int .i32 y] w fun e w' => e = .returned (V p q) ∧ Below w.heap.size w w' := by
  obtain ⟨⟨h1, h2⟩, rfl, rfl⟩ := h; exact world_any x y h1 h2 w
theorem i64_small {x : Int} (h1 : -9007199254740992 ≤ x) (h2 : x ≤ 9007199254740992) : I64 x := ⟨by omega, by omega⟩
end Go.Proofs.Ytolifgjkejhlhaa
