
/-
What is so of the whole program, once for all rows of this seat.
-/
import Derived.Test.YtmhgcflccaflpaaRows
import Derived.WalkKit
import Derived.ProofKit
namespace Go.Proofs.Ytmhgcflccaflpaa
open Go.ChangeShapes Go.WideShapes Go.ChangeAt Go.RowKit
theorem q_all : (Try.prog.mayEnter && (Try.prog.liftsFinal == Rows.fnShortsRow.lifted) && (Try.prog.make == some Rows.fnShortsRow.make)) = true := by kernel_rfl
theorem q_enter : Try.prog.mayEnter = true := by
  have h := q_all
  rw [Bool.and_eq_true, Bool.and_eq_true] at h
  exact h.1.1
theorem q_lifts : Try.prog.liftsFinal = Rows.fnShortsRow.lifted := by
  have h := q_all
  rw [Bool.and_eq_true, Bool.and_eq_true] at h
  exact beq_iff_eq.1 h.1.2
theorem q_make : Try.prog.make = some Rows.fnShortsRow.make := by
  have h := q_all
  rw [Bool.and_eq_true, Bool.and_eq_true] at h
  exact beq_iff_eq.1 h.2
end Go.Proofs.Ytmhgcflccaflpaa
