
/-
Powers and logarithms: a table.
-/
import Derived.Test.YtmhgcflccaflpaaQa
namespace Go.Proofs.Ytmhgcflccaflpaa.Fl
open Ieee Go Go.RowKit
set_option exponentiation.threshold 2000
theorem tn0 : all2 (fun n => pqN ((n : Int) - 800)) 8 0 = true := by decide +kernel
theorem tn1 : all2 (fun n => pqN ((n : Int) - 800)) 8 256 = true := by decide +kernel
theorem tn2 : all2 (fun n => pqN ((n : Int) - 800)) 8 512 = true := by decide +kernel
theorem tn3 : all2 (fun n => pqN ((n : Int) - 800)) 8 768 = true := by decide +kernel
theorem tn4 : all2 (fun n => pqN ((n : Int) - 800)) 8 1024 = true := by decide +kernel
theorem tn5 : all2 (fun n => pqN ((n : Int) - 800)) 8 1280 = true := by decide +kernel
theorem tn6 : all2 (fun n => pqN ((n : Int) - 800)) 6 1536 = true := by decide +kernel
theorem tk0 : all2 (fun n => pqK ((n : Int) - 50)) 6 0 = true := by decide +kernel
theorem tk1 : all2 (fun n => pqK ((n : Int) - 50)) 5 64 = true := by decide +kernel
theorem tk2 : all2 (fun n => pqK ((n : Int) - 50)) 2 96 = true := by decide +kernel
theorem tk3 : all2 (fun n => pqK ((n : Int) - 50)) 0 100 = true := by decide +kernel
end Go.Proofs.Ytmhgcflccaflpaa.Fl
