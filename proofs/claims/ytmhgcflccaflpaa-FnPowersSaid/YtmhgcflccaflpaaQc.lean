
/-
Powers and logarithms: a table.
-/
import Derived.Test.YtmhgcflccaflpaaQa
namespace Go.Proofs.Ytmhgcflccaflpaa.Fl
open Ieee Go Go.RowKit
set_option exponentiation.threshold 2000
theorem tj4 : all2 (fun n => pqT ((n : Int) - 800) && pqL ((n : Int) - 800)) 8 1024 = true := by decide +kernel
theorem tj5 : all2 (fun n => pqT ((n : Int) - 800) && pqL ((n : Int) - 800)) 8 1280 = true := by decide +kernel
theorem tj6 : all2 (fun n => pqT ((n : Int) - 800) && pqL ((n : Int) - 800)) 6 1536 = true := by decide +kernel
theorem tj7 : all2 (fun n => pqT ((n : Int) - 800) && pqL ((n : Int) - 800)) 5 1600 = true := by decide +kernel
end Go.Proofs.Ytmhgcflccaflpaa.Fl
