
/-
The samples of short integers are exact: a table.
-/
import Derived.Test.YtmhgcflccaflpaaSh
namespace Go.Proofs.Ytmhgcflccaflpaa.Fl
open Ieee Go Go.RowKit
set_option exponentiation.threshold 2000
theorem tabf0 : all2 okf 13 0 = true := by decide +kernel
theorem tabf1 : all2 okf 13 8192 = true := by decide +kernel
end Go.Proofs.Ytmhgcflccaflpaa.Fl
