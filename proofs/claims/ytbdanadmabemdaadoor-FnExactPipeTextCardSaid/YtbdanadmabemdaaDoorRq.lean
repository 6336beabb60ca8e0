
/-
What is so of the whole program, once for all rows of this seat.
-/
import Derived.Test.YtbdanadmabemdaaDoorRows
import Derived.WalkKit
import Derived.ProofKit
namespace Go.Proofs.YtbdanadmabemdaaDoor
open Go.ChangeShapes Go.WideShapes Go.ChangeAt Go.RowKit
theorem q_all : (Tryd.prog.mayEnter && (Tryd.prog.liftsFinal == Rows.fnExactBowTextRow.lifted) && (Tryd.prog.make == some Rows.fnExactBowTextRow.make)) = true := by kernel_rfl
theorem q_enter : Tryd.prog.mayEnter = true := by
  have h := q_all
  rw [Bool.and_eq_true, Bool.and_eq_true] at h
  exact h.1.1
theorem q_lifts : Tryd.prog.liftsFinal = Rows.fnExactBowTextRow.lifted := by
  have h := q_all
  rw [Bool.and_eq_true, Bool.and_eq_true] at h
  exact beq_iff_eq.1 h.1.2
theorem q_make : Tryd.prog.make = some Rows.fnExactBowTextRow.make := by
  have h := q_all
  rw [Bool.and_eq_true, Bool.and_eq_true] at h
  exact beq_iff_eq.1 h.2
end Go.Proofs.YtbdanadmabemdaaDoor
