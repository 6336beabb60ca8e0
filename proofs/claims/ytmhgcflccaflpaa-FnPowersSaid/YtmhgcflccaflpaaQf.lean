
/-
Powers and logarithms: a table.
-/
import Derived.Test.YtmhgcflccaflpaaQa
namespace Go.Proofs.Ytmhgcflccaflpaa.Fl
open Ieee Go Go.RowKit
set_option exponentiation.threshold 2000
theorem ts3 : all2 (pqS) 6 192 = true := by decide +kernel
theorem ts4 : all2 (pqS) 6 256 = true := by decide +kernel
theorem ts5 : all2 (pqS) 6 320 = true := by decide +kernel
theorem ts6 : all2 (pqS) 4 384 = true := by decide +kernel
end Go.Proofs.Ytmhgcflccaflpaa.Fl
