
/-
The samples of short integers are exact: a table.
-/
import Derived.Test.YtmhgcflccaflpaaSh
namespace Go.Proofs.Ytmhgcflccaflpaa.Fl
open Ieee Go Go.RowKit
set_option exponentiation.threshold 2000
theorem tabf2 : all2 okf 13 16384 = true := by decide +kernel
theorem tabf3 : all2 okf 13 24576 = true := by decide +kernel
end Go.Proofs.Ytmhgcflccaflpaa.Fl
