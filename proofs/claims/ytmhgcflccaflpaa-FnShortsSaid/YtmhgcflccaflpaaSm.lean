
/-
Contracts of the tests whether samples, lists, rings and filters are the same.
-/
import Derived.Test.YtmhgcflccaflpaaRi
import Derived.Test.YtmhgcflccaflpaaRh
namespace Go.Proofs.Ytmhgcflccaflpaa
open Go Go.RowKit Fl
/-- the first k are the same -/
def sameTo (xs ys : List Nat) : Nat → Bool
  | 0 => true
  | k + 1 => sameTo xs ys k && sameB (nth xs k) (nth ys k)
theorem sameTo_false {xs ys : List Nat} {k : Nat} (h : sameB (nth xs k) (nth ys k) = false) : ∀ n, k < n → sameTo xs ys n = false
  | n + 1, hk => by
    by_cases e : k = n
    · subst e; rw [sameTo, h, Bool.and_false]
    · rw [sameTo, sameTo_false h n (by omega), Bool.false_and]
def sameL (n m : Nat) (xs ys : List Nat) : Bool := decide (n = m) && sameTo xs ys n
theorem c_SameSample (a b : Nat) (w : World) : Calls Try.prog 12 #[.float .f32 a, .float .f32 b] w (RetB (sameB a b) w) := by
  go_enter Try.func12, Try.ntmps12
  go_wp2_with (go_at_call 25; refine (c_bitsOf _ _).mono ?_; rintro e w' ⟨rfl, n1, rfl⟩)
  go_ret
  exact ⟨rfl, same1 _ _⟩
end Go.Proofs.Ytmhgcflccaflpaa
