
/-
The ratio that is nearest to a number: what is computed, in plain Lean.
-/
import Derived.Test.YtjjpboiginccjaaNf
namespace Go.Proofs.Ytjjpboiginccjaa.Fl
open Ieee Go

def brP (x : Nat) (k : Int) : Nat := fop .mul .f64 (up x) (floatOfInt .f64 k)
def brN (x : Nat) (k : Int) : Nat := whole .even (brP x k)
def brI (x : Nat) (k : Int) : Int := (floatToIntVal .f64 (brN x k) .i64).getD 0
def brD (x : Nat) (k : Int) : Nat := ab .f64 (fop .sub .f64 (fop .quo .f64 (brN x k) (floatOfInt .f64 k)) (up x))
def brRun (x : Nat) : Nat → Int × Int × Nat
  | 0 => (0, 0, 0)
  | j + 1 => if j = 0 ∨ (FloatKind.f64.format.order (brD x (j + 1)) (brRun x j).2.2 == some .lt) = true then (brI x (j + 1), (j : Int) + 1, brD x (j + 1)) else brRun x j
theorem brRun_q (x : Nat) : ∀ j, (brRun x (j + 1)).2.1 ≠ 0
  | 0 => by simp [brRun]
  | j + 1 => by
    have := brRun_q x j
    rw [brRun]
    split
    · show ((j + 1 : Nat) : Int) + 1 ≠ 0
      omega
    · exact this

theorem br_facts {x : Nat} (hx : x < 4294967296) (h : (FloatKind.f32.format.order x 0 = some .gt ∨ FloatKind.f32.format.order x 0 = some .eq) ∧ (FloatKind.f32.format.order x 1148846080 = some .lt ∨ FloatKind.f32.format.order x 1148846080 = some .eq)) :
    isNaN .f32 x = false ∧ ∀ j : Nat, j < 1000 → isNaN .f64 (brP x (j + 1)) = false ∧ floatToIntVal .f64 (brN x (j + 1)) .i64 = some (brI x (j + 1)) := by
  have some_brI : ∀ {k : Int} {n : Int}, floatToIntVal .f64 (brN x k) .i64 = some n → floatToIntVal .f64 (brN x k) .i64 = some (brI x k) := by
    intro k n hn; unfold brI; rw [hn]; rfl
  rcases ge_zero (k := .f32) hx h.1 with h1 | h1
  · have h2 := le_of_order h1 (by decide) h.2
    refine ⟨isNaN_pos h1, fun j hj => ?_⟩
    have u2 : up x ≤ up 1148846080 := up_mono (by decide) h2
    have e2 : up 1148846080 = 4652007308841189376 := by decide +kernel
    have m1 : floatOfInt .f64 ((j : Int) + 1) ≤ floatOfInt .f64 1000 := floatOfInt_mono (by omega) (by omega)
    have e3 : floatOfInt .f64 1000 = 4652007308841189376 := by decide +kernel
    have m3 : brP x (j + 1) ≤ fop .mul .f64 4652007308841189376 4652007308841189376 := fmul_mono (by decide) (by decide) (by omega) (by omega)
    have e4 : fop .mul .f64 4652007308841189376 4652007308841189376 = 4696837146684686336 := by decide +kernel
    rw [e4] at m3
    obtain ⟨f1, f2, f3, f4, f5⟩ := fmt64
    have hlt : brP x (j + 1) < Ieee.double.infRung := by rw [f4]; omega
    refine ⟨isNaN_pos (k := .f64) (Nat.le_of_lt hlt), ?_⟩
    have hN : brN x (j + 1) = floatOfInt .f64 (rhe (v Ieee.double (brP x (j + 1))) (2 ^ 1074) : Nat) := whole_even hlt
    have hr : rhe (v Ieee.double (brP x (j + 1))) (2 ^ 1074) ≤ rhe (v Ieee.double 4696837146684686336) (2 ^ 1074) := rhe_mono (Nat.two_pow_pos 1074) (v_le _ m3)
    have e5 : rhe (v Ieee.double 4696837146684686336) (2 ^ 1074) = 1000000 := by decide +kernel
    rw [e5] at hr
    generalize rhe (v Ieee.double (brP x (j + 1))) (2 ^ 1074) = R at *
    exact some_brI (by rw [hN]; exact toInt_int (by omega))
  · have e1 : FloatKind.f32.format.signWeight = 2147483648 := by decide
    rw [e1] at h1
    subst h1
    have e2 : up 2147483648 = 9223372036854775808 := by decide +kernel
    refine ⟨by decide +kernel, fun j hj => ?_⟩
    have all : ∀ q : Fin 1000, fop .mul .f64 9223372036854775808 (floatOfInt .f64 ((q.val : Nat) + 1)) = 9223372036854775808 := by decide +kernel
    have hP : brP 2147483648 (j + 1) = 9223372036854775808 := by unfold brP; rw [e2]; exact all ⟨j, hj⟩
    refine ⟨by rw [hP]; decide +kernel, some_brI (n := 0) ?_⟩
    unfold brN
    rw [hP]
    decide +kernel
end Go.Proofs.Ytjjpboiginccjaa.Fl
