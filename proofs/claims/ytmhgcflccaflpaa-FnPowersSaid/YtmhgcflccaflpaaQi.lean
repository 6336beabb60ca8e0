
/-
Powers and logarithms: a table.
-/
import Derived.Test.YtmhgcflccaflpaaQa
namespace Go.Proofs.Ytmhgcflccaflpaa.Fl
open Ieee Go Go.RowKit
set_option exponentiation.threshold 2000
theorem tc4 : all2 (pqC) 8 1024 = true := by decide +kernel
theorem tc5 : all2 (pqC) 8 1280 = true := by decide +kernel
theorem tc6 : all2 (pqC) 6 1536 = true := by decide +kernel
end Go.Proofs.Ytmhgcflccaflpaa.Fl
