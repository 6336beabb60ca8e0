
/-
Contracts of the program's tests of rings and of filters.
-/
import Derived.Test.YtmhgcflccaflpaaRg
namespace Go.Proofs.Ytmhgcflccaflpaa
open Go Go.RowKit Fl

def RetIdx (b : Bool) (w : World) (e : Ending) (w' : World) : Prop := ∃ i : Int, e = .returned (.int .i64 i) ∧ decide (0 ≤ i) = b ∧ ∃ q, w' = w.drewN q
end Go.Proofs.Ytmhgcflccaflpaa
