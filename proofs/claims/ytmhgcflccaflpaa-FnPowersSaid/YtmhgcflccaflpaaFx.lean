
/-
Small multiples of a power of two as float64s: sums of them are exact.
-/
import Derived.Test.YtmhgcflccaflpaaPw
namespace Go.Proofs.Ytmhgcflccaflpaa.Fl
open Ieee Go

/-- S times 2 to the power -30 -/
def fixF (S : Int) : Nat := Ieee.double.write (.number (decide (S < 0)) S.natAbs (-30))
theorem fix_read {S : Int} (hS : S.natAbs < 2 ^ 53) : ∃ j : Nat, Ieee.double.read (fixF S) = .number (decide (S < 0)) (S.natAbs * 2 ^ j) (-30 - (j : Int)) := by
  obtain ⟨f1, f2, f3, f4, f5⟩ := fmt64
  unfold fixF
  generalize hm : S.natAbs = m at *
  by_cases h0 : m = 0
  · have hd : decide (S < 0) = false := by rw [decide_eq_false_iff_not]; omega
    rw [hd]
    subst h0
    obtain ⟨J, hJ⟩ : ∃ J : Nat, J = 1044 := ⟨_, rfl⟩
    refine ⟨J, ?_⟩
    show Ieee.double.read (Ieee.double.nearest false 0 _) = _
    rw [nearest_rung]
    simp only [rung, if_true, Nat.zero_min]
    rw [read_word _ _ _ (by rw [f4]; omega)]
    unfold mg pl
    rw [f3, f2, if_pos (by omega), if_pos (by omega), Nat.zero_mul, show (-30 - (J : Int)) = -1074 by omega]
  · have hl : m.log2 < 53 := (Nat.log2_lt h0).2 hS
    have hlast : lastOf Ieee.double m (-30) = (m.log2 : Int) - 82 := by unfold lastOf; rw [f1, f2]; omega
    have hr : rung Ieee.double m (-30) < Ieee.double.infRung := by
      have hk := kept_le Ieee.double m (-30) h0
      unfold rung
      rw [if_neg h0]
      generalize rhe (m * 2 ^ (-30 - lastOf Ieee.double m (-30)).toNat) (2 ^ (lastOf Ieee.double m (-30) - -30).toNat) = K at *
      rw [f2, f3, f4]
      rw [f3] at hk
      have hX : (lastOf Ieee.double m (-30) - -1074).toNat ≤ 1149 := by omega
      generalize (lastOf Ieee.double m (-30) - -1074).toNat = X at *
      clear hlast
      omega
    refine ⟨(-30 - lastOf Ieee.double m (-30)).toNat, ?_⟩
    rw [read_write_exact Ieee.double _ m (-30) h0 (by omega) hr]
    congr 1
    omega
theorem fix_add {S T : Int} (hS : S.natAbs < 2 ^ 53) (hT : T.natAbs < 2 ^ 53) : fop .add .f64 (fixF S) (fixF T) = fixF (S + T) := by
  obtain ⟨j, hj⟩ := fix_read hS
  obtain ⟨k, hk⟩ := fix_read hT
  simp only [fop, Format.add]
  rw [show FloatKind.f64.format = Ieee.double from rfl, hj, hk]
  simp only [Datum.sum, Option.map_some, Option.getD_some]
  generalize hb : min (-30 - (j : Int)) (-30 - (k : Int)) = base
  obtain ⟨J, hJ⟩ : ∃ J : Nat, base = -30 - (J : Int) := ⟨max j k, by omega⟩
  have s1 : signed (decide (S < 0)) (S.natAbs * 2 ^ j) (-30 - (j : Int) - base).toNat = S * 2 ^ J := by
    have e : J = j + (-30 - (j : Int) - base).toNat := by omega
    generalize (-30 - (j : Int) - base).toNat = d at *
    subst e
    unfold signed
    rw [Nat.shiftLeft_eq, Nat.mul_assoc, ← Nat.pow_add]
    by_cases h : S < 0
    · rw [decide_eq_true h, if_pos rfl]
      rw [Int.natCast_mul, Int.natCast_pow]
      have : (S.natAbs : Int) = -S := by omega
      rw [this, Int.neg_mul, Int.neg_neg]; rfl
    · rw [decide_eq_false h, if_neg (by decide)]
      rw [Int.natCast_mul, Int.natCast_pow]
      have : (S.natAbs : Int) = S := by omega
      rw [this]; rfl
  have s2 : signed (decide (T < 0)) (T.natAbs * 2 ^ k) (-30 - (k : Int) - base).toNat = T * 2 ^ J := by
    have e : J = k + (-30 - (k : Int) - base).toNat := by omega
    generalize (-30 - (k : Int) - base).toNat = d at *
    subst e
    unfold signed
    rw [Nat.shiftLeft_eq, Nat.mul_assoc, ← Nat.pow_add]
    by_cases h : T < 0
    · rw [decide_eq_true h, if_pos rfl]
      rw [Int.natCast_mul, Int.natCast_pow]
      have : (T.natAbs : Int) = -T := by omega
      rw [this, Int.neg_mul, Int.neg_neg]; rfl
    · rw [decide_eq_false h, if_neg (by decide)]
      rw [Int.natCast_mul, Int.natCast_pow]
      have : (T.natAbs : Int) = T := by omega
      rw [this]; rfl
  rw [s1, s2, ← Int.add_mul]
  have hp : (0 : Int) < 2 ^ J := Int.pow_pos (by decide)
  have e1 : ((S + T) * 2 ^ J).natAbs = (S + T).natAbs * 2 ^ J := by rw [Int.natAbs_mul, Int.natAbs_pow]; rfl
  have e2 : (if (S + T) * 2 ^ J = 0 then (decide (S < 0) && decide (T < 0)) else decide ((S + T) * 2 ^ J < 0)) = decide (S + T < 0) := by
    by_cases h0 : S + T = 0
    · rw [if_pos (by rw [h0, Int.zero_mul]), h0]
      by_cases h1 : S < 0
      · rw [decide_eq_false (show ¬ T < 0 by omega)]; simp
      · rw [decide_eq_false h1]; rfl
    · rw [if_neg (by intro h; rcases Int.mul_eq_zero.1 h with h | h <;> omega)]
      by_cases h1 : S + T < 0
      · rw [decide_eq_true h1, decide_eq_true (Int.mul_neg_of_neg_of_pos h1 hp)]
      · rw [decide_eq_false h1, decide_eq_false (Int.not_lt.2 (Int.mul_nonneg (by omega) (by omega)))]
  have e2' : (if (S + T) * 2 ^ J = 0 then (decide (S < 0) && decide (T < 0)) = true else (S + T) * 2 ^ J < 0) ↔ S + T < 0 := by
    by_cases h0 : S + T = 0
    · rw [if_pos (by rw [h0, Int.zero_mul])]
      simp only [Bool.and_eq_true, decide_eq_true_eq]
      omega
    · rw [if_neg (by intro h; rcases Int.mul_eq_zero.1 h with h | h <;> omega)]
      constructor
      · intro h
        apply Int.lt_of_not_ge
        intro h1
        have := Int.mul_nonneg h1 (Int.le_of_lt hp)
        omega
      · intro h1; exact Int.mul_neg_of_neg_of_pos h1 hp
  rw [e1]
  have e3 : ∀ s, s = decide (S + T < 0) → Ieee.double.write (.number s ((S + T).natAbs * 2 ^ J) base) = fixF (S + T) := by
    rintro _ rfl
    rw [hJ]
    show Ieee.double.nearest _ _ _ = _
    rw [nearest_scale]; rfl
  refine e3 _ ?_
  first | exact e2 | (simp only [e2]) | simp only [e2']
theorem fix_int (k : Int) : floatOfInt .f64 k = fixF (k * 2 ^ 30) := by
  unfold floatOfInt FloatKind.nearest FloatKind.encode fixF
  have e1 : (k * 2 ^ 30).natAbs = k.natAbs * 2 ^ 30 := by rw [Int.natAbs_mul]; rfl
  have e2 : decide (k * 2 ^ 30 < 0) = decide (k < 0) := by
    rw [decide_eq_decide]; omega
  rw [e1, e2]
  show Ieee.double.nearest _ _ 0 = Ieee.double.nearest _ _ _
  have := nearest_scale Ieee.double (decide (k < 0)) k.natAbs 30 0
  rw [← this]; rfl
theorem ovf_fix {S : Int} (hS : S.natAbs ≤ 2 ^ 40) : ovf (fixF S) = false := by
  obtain ⟨j, hj⟩ := fix_read (S := S) (Nat.lt_of_le_of_lt hS (by decide))
  unfold ovf
  rw [hj]
  show (Ieee.single.read (Ieee.single.nearest _ _ _)).isInfinity = false
  rw [nearest_scale, nearest_rung]
  have h1 := rung_mono Ieee.single (-30) hS
  have h2 : rung Ieee.single (2 ^ 40) (-30) < Ieee.single.infRung := by decide +kernel
  rw [Nat.min_eq_left (by omega), read_word _ _ _ (by omega)]
  rfl
theorem isNaN_fix (S : Int) : isNaN .f64 (fixF S) = false := write_number _ _ _ _
theorem fix_pw : ∀ i : Fin 31, (1023 - i.val) * B52 = fixF (2 ^ (30 - i.val)) := by decide +kernel
end Go.Proofs.Ytmhgcflccaflpaa.Fl
