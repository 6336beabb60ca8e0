
/-
Powers and logarithms: a table.
-/
import Derived.Test.YtmhgcflccaflpaaQa
namespace Go.Proofs.Ytmhgcflccaflpaa.Fl
open Ieee Go Go.RowKit
set_option exponentiation.threshold 2000
theorem tj0 : all2 (fun n => pqT ((n : Int) - 800) && pqL ((n : Int) - 800)) 8 0 = true := by decide +kernel
theorem tj1 : all2 (fun n => pqT ((n : Int) - 800) && pqL ((n : Int) - 800)) 8 256 = true := by decide +kernel
theorem tj2 : all2 (fun n => pqT ((n : Int) - 800) && pqL ((n : Int) - 800)) 8 512 = true := by decide +kernel
theorem tj3 : all2 (fun n => pqT ((n : Int) - 800) && pqL ((n : Int) - 800)) 8 768 = true := by decide +kernel
end Go.Proofs.Ytmhgcflccaflpaa.Fl
