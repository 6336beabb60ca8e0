
/-
Powers and logarithms: a table.
-/
import Derived.Test.YtmhgcflccaflpaaQa
namespace Go.Proofs.Ytmhgcflccaflpaa.Fl
open Ieee Go Go.RowKit
set_option exponentiation.threshold 2000
theorem ts0 : all2 (pqS) 6 0 = true := by decide +kernel
theorem ts1 : all2 (pqS) 6 64 = true := by decide +kernel
theorem ts2 : all2 (pqS) 6 128 = true := by decide +kernel
end Go.Proofs.Ytmhgcflccaflpaa.Fl
