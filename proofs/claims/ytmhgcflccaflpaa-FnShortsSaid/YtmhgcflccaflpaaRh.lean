
/-
Lists of rings in memory.
-/
import Derived.Test.YtmhgcflccaflpaaRg
import Derived.Outline
namespace Go.Proofs.Ytmhgcflccaflpaa
open Go Go.RowKit Fl
end Go.Proofs.Ytmhgcflccaflpaa
