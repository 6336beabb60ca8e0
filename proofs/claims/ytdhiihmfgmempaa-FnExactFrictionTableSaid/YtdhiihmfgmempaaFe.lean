
/-
Contracts of the laws' comparison of filters.
-/
import Derived.Test.YtdhiihmfgmempaaSn
import Derived.Test.YtdhiihmfgmempaaDg
namespace Go.Proofs.Ytdhiihmfgmempaa
open Go Go.RowKit Fl
theorem Alk.three {a0 a1 a2 b0 b1 b2 : Nat} (h0 : up b0 = up a0) (h1 : up b1 = up a1) (h2 : up b2 = up a2) : Alk [a0, a1, a2] [b0, b1, b2] := by
  intro i
  match i with
  | 0 => exact h0
  | 1 => exact h1
  | 2 => exact h2
  | n + 3 => rfl
theorem Alk.two {a0 a1 b0 b1 : Nat} (h0 : up b0 = up a0) (h1 : up b1 = up a1) : Alk [a0, a1] [b0, b1] := by
  intro i
  match i with
  | 0 => exact h0
  | 1 => exact h1
  | n + 2 => rfl
end Go.Proofs.Ytdhiihmfgmempaa
