
/-
What the listed tables give the walks; the witness's world.
-/
import Derived.Test.YtbdanadmabemdaaDoorRows
import Derived.Test.YtbdanadmabemdaaDoorHa
import Derived.WalkKit
import Derived.ProofKit
import Derived.LaidMore
import Derived.OpenShut
import Derived.Stop.Joined
import Derived.Lib.LaidTab
namespace Go.Proofs.YtbdanadmabemdaaDoor
open Go.ChangeShapes Go.WideShapes Go.ChangeAt Go.RowKit
/-- the listed tables -/
def laidT : List (String × DataW Unit) := [("math/bits.deBruijn32tab", Rows.laid_math_bits_deBruijn32tab), ("math/bits.deBruijn64tab", Rows.laid_math_bits_deBruijn64tab), ("internal/strconv.uint64pow10", Rows.laid_internal_strconv_uint64pow10)]
theorem own : ownKnob Tryd.prog.godebug = none := by kernel_rfl
set_option maxRecDepth 100000 in
theorem door_met (os : Os) (args : Array Value) : laidMetH Tryd.prog laidT ((World.doorLaid Tryd.prog 24 os).forCall (fun _ _ => 0) ⟨#[], args, []⟩).memory :=
  laidMetH_of_parts3 (fuel := 8) (laidMet_of_run' 8 (by kernel_rfl) (by kernel_rfl)) (by kernel_rfl) (by kernel_rfl)
theorem gB64 : Tryd.prog.globalNamed "math/bits.deBruijn64tab" = some 4 := by kernel_rfl
theorem gP10 : Tryd.prog.globalNamed "internal/strconv.uint64pow10" = some 1 := by kernel_rfl
theorem tB64 : (Tryd.prog.globals[4]?).map (·.type) = some 163 := by kernel_rfl
theorem tP10 : (Tryd.prog.globals[1]?).map (·.type) = some 157 := by kernel_rfl
/-- the numbers of the table of bits -/
def b64 : List Int := [0, 1, 56, 2, 57, 49, 28, 3, 61, 58, 42, 50, 38, 29, 17, 4, 62, 47, 59, 36, 45, 43, 51, 22, 53, 39, 33, 30, 24, 18, 12, 5, 63, 55, 48, 27, 60, 41, 37, 16, 46, 35, 44, 21, 52, 32, 23, 11, 54, 26, 40, 15, 34, 20, 31, 10, 25, 14, 19, 9, 13, 8, 7, 6]
theorem b64_data : Rows.laid_math_bits_deBruijn64tab (H := Unit) = Lib.tabData .u8 b64 := by kernel_rfl
theorem p10_data : Rows.laid_internal_strconv_uint64pow10 (H := Unit) = Lib.tabData .u64 Lib.pow10Tab := by kernel_rfl
theorem tb_of_laid {W : World} (h : laidMetH Tryd.prog laidT W) : Tb W := by
  rw [MakeChecks.laidMetH_plain _ _ _ (by kernel_rfl)] at h
  obtain ⟨ps, ⟨g0, t0, cs0, f0, p0, q0, hg0, ht0, hv0, hd0, ⟨g1, t1, cs1, f1, p1, q1, hg1, ht1, hv1, hd1, ⟨g2, t2, cs2, f2, p2, q2, hg2, ht2, hv2, hd2, _, _⟩, _⟩, _⟩, _, _⟩ := h
  obtain rfl := Option.some.inj (gB64.symm.trans hg1)
  obtain rfl := Option.some.inj (gP10.symm.trans hg2)
  obtain rfl := Option.some.inj (tB64.symm.trans ht1)
  obtain rfl := Option.some.inj (tP10.symm.trans ht2)
  have T2 : Lib.TabIs Tryd.prog W "internal/strconv.uint64pow10" .u64 Lib.pow10Tab := by
    rw [p10_data] at hd2
    unfold Lib.TabIs
    rw [hv2, ← Lib.cells_of_tab Tryd.underlying157 Tryd.underlying116 (by kernel_rfl) (by kernel_rfl) hd2]
  have T1 : Lib.TabIs Tryd.prog W "math/bits.deBruijn64tab" .u8 b64 := by
    rw [b64_data] at hd1
    unfold Lib.TabIs
    rw [hv1, ← Lib.cells_of_tab Tryd.underlying163 Tryd.underlying5 (by kernel_rfl) (by kernel_rfl) hd1]
  have c := T1.cell gB64 15 (by decide)
  refine ⟨?_, c, T2⟩
  cases hh : W.heap[4]? with
  | none => unfold World.cell? at c; rw [show ((⟨4, 15, none⟩ : Addr)).block = 4 from rfl, hh] at c; cases c
  | some _ => exact (Array.getElem?_eq_some_iff.1 hh).1
set_option maxRecDepth 100000 in
theorem door_shaped (os : Os) (args : Array Value) : ((World.doorLaid Tryd.prog 24 os).forCall (fun _ _ => 0) ⟨#[], args, []⟩).Shaped Tryd.prog := World.shaped_of_RefB (by kernel_rfl) (by kernel_rfl)
end Go.Proofs.YtbdanadmabemdaaDoor
