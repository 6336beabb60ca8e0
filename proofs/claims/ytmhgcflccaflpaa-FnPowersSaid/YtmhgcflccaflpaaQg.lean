
/-
Powers and logarithms: a table.
-/
import Derived.Test.YtmhgcflccaflpaaQa
namespace Go.Proofs.Ytmhgcflccaflpaa.Fl
open Ieee Go Go.RowKit
set_option exponentiation.threshold 2000
theorem tc0 : all2 (pqC) 8 0 = true := by decide +kernel
theorem tc1 : all2 (pqC) 8 256 = true := by decide +kernel
theorem tc2 : all2 (pqC) 8 512 = true := by decide +kernel
theorem tc3 : all2 (pqC) 8 768 = true := by decide +kernel
end Go.Proofs.Ytmhgcflccaflpaa.Fl
