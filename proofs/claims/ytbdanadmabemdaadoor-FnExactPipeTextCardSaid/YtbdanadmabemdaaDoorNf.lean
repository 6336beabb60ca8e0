
/-
Whole numbers out of floats: the floor, the nearest whole number, small whole numbers as floats.
-/
import Derived.Test.YtbdanadmabemdaaDoorNu
namespace Go.Proofs.YtbdanadmabemdaaDoor.Fl
open Ieee Go

/-- a float made whole -/
def whole (way : Toward) (x : Nat) : Nat := if isNaN .f64 x then qnan .f64 else Ieee.double.write ((Ieee.double.read x).integral way)
theorem whole_nv (way : Toward) (x t : Nat) : whole way (nv .f64 x t) = whole way x := by
  by_cases h : isNaN .f64 x = true
  · unfold whole; rw [isNaN_nv, h]; rfl
  · rw [nv_of _ (by simpa using h)]
attribute [go_sem] whole_nv

theorem cut_down (n d : Nat) : Toward.down.cut false n d = n / 2 ^ d := by
  unfold Toward.cut
  simp only [Nat.one_shiftLeft, Bool.false_and, Bool.toNat_false, Nat.add_zero]
  by_cases hd : d ≤ n.log2 + 2
  · rw [Nat.min_eq_left hd]
  · rw [Nat.min_eq_right (by omega)]
    have hn : n < 2 ^ (n.log2 + 1) := Nat.lt_log2_self
    have h1 : 2 ^ (n.log2 + 1) ≤ 2 ^ (n.log2 + 2) := Nat.pow_le_pow_right (by decide) (by omega)
    have h2 : 2 ^ (n.log2 + 1) ≤ 2 ^ d := Nat.pow_le_pow_right (by decide) (by omega)
    rw [Nat.div_eq_of_lt (by omega), Nat.div_eq_of_lt (by omega)]

/-- the whole part of a positive float64 -/
def flo (x : Nat) : Nat := v Ieee.double x / 2 ^ 1074

theorem over (f : Format) (t : Nat) (ht : f.leastPlace = -(t : Int)) (x : Nat) (G : Nat → Nat → Nat) (hG : ∀ n g c, 0 < c → G (n * c) (g * c) = G n g) :
    G (mg f x * 2 ^ (pl f x).toNat) (2 ^ (-(pl f x)).toNat) = G (v f x) (2 ^ t) := by
  have hp := pl_ge f x
  rw [ht] at hp
  unfold v
  rw [ht]
  by_cases h0 : 0 ≤ pl f x
  · have a1 : (-(pl f x)).toNat = 0 := by omega
    have a2 : (pl f x - -(t : Int)).toNat = (pl f x).toNat + t := by omega
    rw [a1, a2, Nat.pow_add, ← Nat.mul_assoc]
    have := hG (mg f x * 2 ^ (pl f x).toNat) 1 (2 ^ t) (Nat.two_pow_pos _)
    rw [Nat.one_mul] at this
    rw [this]
  · have a1 : (pl f x).toNat = 0 := by omega
    have a2 : t = (-(pl f x)).toNat + (pl f x - -(t : Int)).toNat := by omega
    have := hG (mg f x) (2 ^ (-(pl f x)).toNat) (2 ^ (pl f x - -(t : Int)).toNat) (Nat.two_pow_pos _)
    rw [← Nat.pow_add, ← a2] at this
    rw [a1, Nat.pow_zero, Nat.mul_one, this]

theorem div_scale (n g c : Nat) (hc : 0 < c) : n * c / (g * c) = n / g := Nat.mul_div_mul_right _ _ hc

theorem whole_down {x : Nat} (hx : x < Ieee.double.infRung) : whole .down x = floatOfInt .f64 (flo x) := by
  have hn : isNaN .f64 x = false := word_read Ieee.double false x (Nat.le_of_lt hx)
  unfold whole
  rw [hn]
  simp only [Bool.false_eq_true, if_false]
  rw [read_pos _ hx]
  simp only [Datum.integral, Nat.shiftLeft_eq, cut_down]
  rw [over Ieee.double 1074 (by decide) x (fun n g => n / g) div_scale]
  unfold floatOfInt FloatKind.nearest FloatKind.encode
  rw [decide_eq_false (by omega)]
  rfl
theorem whole_even {x : Nat} (hx : x < Ieee.double.infRung) : whole .even x = floatOfInt .f64 (rhe (v Ieee.double x) (2 ^ 1074) : Nat) := by
  have hn : isNaN .f64 x = false := word_read Ieee.double false x (Nat.le_of_lt hx)
  unfold whole
  rw [hn]
  simp only [Bool.false_eq_true, if_false]
  rw [read_pos _ hx]
  simp only [Datum.integral, Nat.shiftLeft_eq, cut_even]
  rw [over Ieee.double 1074 (by decide) x rhe (fun n g c hc => rhe_mul n g c hc)]
  unfold floatOfInt FloatKind.nearest FloatKind.encode
  rw [decide_eq_false (by omega)]
  rfl

theorem flo_mono {x X : Nat} (h : x ≤ X) : flo x ≤ flo X := Nat.div_le_div_right (v_le _ h)

/-- a whole number that a float64 has -/
theorem read_int {m : Nat} (hm : m < 2 ^ 53) : ∃ j : Nat, Ieee.double.read (floatOfInt .f64 m) = .number false (m * 2 ^ j) (-(j : Int)) := by
  obtain ⟨f1, f2, f3, f4, f5⟩ := fmt64
  have he : floatOfInt .f64 (m : Int) = Ieee.double.write (.number false m 0) := by
    unfold floatOfInt FloatKind.nearest FloatKind.encode
    rw [decide_eq_false (by omega)]; rfl
  rw [he]
  by_cases h0 : m = 0
  · subst h0
    obtain ⟨J, hJ⟩ : ∃ J : Nat, J = 1074 := ⟨_, rfl⟩
    refine ⟨J, ?_⟩
    show Ieee.double.read (Ieee.double.nearest false 0 0) = _
    rw [nearest_rung]
    simp only [rung, if_true, Nat.zero_min]
    rw [read_word _ _ _ (by rw [f4]; omega)]
    unfold mg pl
    rw [f3, f2, if_pos (by omega), if_pos (by omega), Nat.zero_mul, show (-(J : Int)) = -1074 by omega]
  · have hl : m.log2 < 53 := (Nat.log2_lt h0).2 hm
    have hlast : lastOf Ieee.double m 0 = (m.log2 : Int) - 52 := by unfold lastOf; rw [f1, f2]; omega
    have hr : rung Ieee.double m 0 < Ieee.double.infRung := by
      have hk := kept_le Ieee.double m 0 h0
      unfold rung
      rw [if_neg h0]
      generalize rhe (m * 2 ^ (0 - lastOf Ieee.double m 0).toNat) (2 ^ (lastOf Ieee.double m 0 - 0).toNat) = K at *
      rw [f2, f3, f4]
      rw [f3] at hk
      have hX : (lastOf Ieee.double m 0 - -1074).toNat ≤ 1149 := by omega
      generalize (lastOf Ieee.double m 0 - -1074).toNat = X at *
      clear hlast
      omega
    refine ⟨(0 - lastOf Ieee.double m 0).toNat, ?_⟩
    rw [read_write_exact Ieee.double false m 0 h0 (by omega) hr]
    congr 1
    omega

theorem down_int {m : Nat} (hm : m < 2 ^ 53) : down (floatOfInt .f64 m) = floatOfInt .f32 m := by
  obtain ⟨j, hj⟩ := read_int hm
  have hn : isNaN .f64 (floatOfInt .f64 m) = false := by unfold isNaN; rw [show FloatKind.f64.format = Ieee.double from rfl, hj]; rfl
  unfold down
  rw [hn]
  simp only [Bool.false_eq_true, if_false]
  rw [hj]
  show Ieee.single.nearest _ _ _ = _
  have := nearest_scale Ieee.single false m j 0
  rw [Int.zero_sub] at this
  rw [this]
  unfold floatOfInt FloatKind.nearest FloatKind.encode
  rw [decide_eq_false (by omega)]; rfl

theorem toInt_int {m : Nat} (hm : m < 2 ^ 53) : floatToIntVal .f64 (floatOfInt .f64 m) .i64 = some (m : Int) := by
  obtain ⟨j, hj⟩ := read_int hm
  unfold floatToIntVal
  rw [show FloatKind.f64.decode (floatOfInt .f64 m) = Ieee.double.read (floatOfInt .f64 m) from rfl, hj]
  have hi : (Datum.number false (m * 2 ^ j) (-(j : Int))).toInt .zero = some (m : Int) := by
    simp only [Datum.toInt, Datum.integral]
    have a1 : (-(j : Int)).toNat = 0 := by omega
    have a2 : (- -(j : Int)).toNat = j := by omega
    rw [a1, a2]
    have hc : Toward.zero.cut false ((m * 2 ^ j) <<< 0) j = m := by
      have : Toward.zero.cut false ((m * 2 ^ j) <<< 0) j = Toward.down.cut false ((m * 2 ^ j) <<< 0) j := rfl
      rw [this, cut_down, Nat.shiftLeft_eq, Nat.pow_zero, Nat.mul_one, Nat.mul_div_cancel _ (Nat.two_pow_pos _)]
    rw [hc]
    simp [signed]
  simp only [hi]
  rw [if_pos]
  have : IntKind.i64.min = -9223372036854775808 ∧ IntKind.i64.max = 9223372036854775807 := by decide
  omega
theorem ovf_int {m : Nat} (hm : m < 16777216) : ovf (floatOfInt .f64 m) = false := by
  refine ovf_mono (X := floatOfInt .f64 16777216) (by decide +kernel) (floatOfInt_mono (by omega) (by omega)) (by decide +kernel)

theorem isNaN_int (k : FloatKind) (n : Int) : isNaN k (floatOfInt k n) = false := write_number k.format _ _ _
@[go_sem] theorem nv_int (k : FloatKind) (n : Int) (t : Nat) : nv k (floatOfInt k n) t = floatOfInt k n := nv_of t (isNaN_int k n)
@[go_sem] theorem dn_int (k : FloatKind) (n : Int) : dn k (floatOfInt k n) = 0 := by unfold dn; rw [isNaN_int]; rfl
theorem small_ints : ∀ m : Fin 1001, fop .sub .f32 (floatOfInt .f32 (m.val + 1 : Nat)) 1065353216 = floatOfInt .f32 (m.val : Nat) ∧ floatToIntVal .f32 (floatOfInt .f32 (m.val : Nat)) .i64 = some (m.val : Int) := by
  decide +kernel
end Go.Proofs.YtbdanadmabemdaaDoor.Fl
