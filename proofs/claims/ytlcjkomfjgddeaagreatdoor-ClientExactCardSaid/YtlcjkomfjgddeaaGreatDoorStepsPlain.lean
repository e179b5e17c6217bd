/- The plain law of ClientSteps. -/
import Derived.Test.YtlcjkomfjgddeaaGreatDoorM36
set_option linter.unusedVariables false
set_option linter.unusedSimpArgs false
namespace Go.Proofs.YtlcjkomfjgddeaaGreatDoor
open Go Go.RowKit Go.Sort

theorem predR_err {W : Wld} {id gx gy : Int} {x : Inp} (h : ¬ (predR W id gx gy x).2 = 0) : predR W id gx gy x = (⟨0, []⟩, (predR W id gx gy x).2) := by
  unfold predR at h ⊢
  split
  · split
    · rename_i h1 h2
      rw [if_pos h1, if_pos h2] at h
      exact absurd rfl h
    · rfl
  · rfl
end Go.Proofs.YtlcjkomfjgddeaaGreatDoor
