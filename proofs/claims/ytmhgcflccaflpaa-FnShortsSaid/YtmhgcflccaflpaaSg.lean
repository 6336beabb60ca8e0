
/-
Floats with their sign: order, difference, whole parts.
-/
import Derived.Test.YtmhgcflccaflpaaNf
import Derived.Test.YtmhgcflccaflpaaPw
namespace Go.Proofs.Ytmhgcflccaflpaa.Fl
open Ieee Go Go.RowKit
set_option exponentiation.threshold 2000
theorem order_opp (d1 d2 : Datum) : d1.opposite.order d2.opposite = d2.order d1 := by
  cases d1 with
  | nan s t => cases d2 <;> rfl
  | infinity s => cases d2 with
    | nan s t => rfl
    | infinity t => cases s <;> cases t <;> rfl
    | number t n j => cases s <;> rfl
  | number s m i => cases d2 with
    | nan s t => rfl
    | infinity t => cases t <;> rfl
    | number t n j =>
      simp only [Datum.opposite, Datum.order]
      rw [show min j i = min i j by omega]
      have key : ∀ (s : Bool) (m k : Nat), signed (!s) m k = -signed s m k := by
        intro s m k; cases s <;> simp [signed]
      rw [key, key]
      congr 1
      generalize signed s m (i - min i j).toNat = A
      generalize signed t n (j - min i j).toNat = B
      rcases Int.lt_trichotomy A B with h | h | h
      · rw [(Int.compare_eq_gt (a := B) (b := A)).2 h, (Int.compare_eq_gt (a := -A) (b := -B)).2 (by omega)]
      · rw [h]; simp
      · rw [(Int.compare_eq_lt (a := B) (b := A)).2 h, (Int.compare_eq_lt (a := -A) (b := -B)).2 (by omega)]
theorem sum_comm (d1 d2 : Datum) : d1.sum d2 = d2.sum d1 := by
  cases d1 with
  | nan s t => cases d2 <;> rfl
  | infinity s => cases d2 with
    | nan s t => rfl
    | infinity t => cases s <;> cases t <;> rfl
    | number t n j => rfl
  | number s m i => cases d2 with
    | nan s t => rfl
    | infinity t => rfl
    | number t n j =>
      simp only [Datum.sum]
      rw [show min j i = min i j by omega, Int.add_comm, Bool.and_comm]
theorem opp_opp (d : Datum) : d.opposite.opposite = d := by cases d <;> simp [Datum.opposite]

section
variable (k : FloatKind)
/-- a word with its sign set -/
def sg (k : FloatKind) (a : Nat) : Nat := k.format.signWeight + a
theorem read_sg {a : Nat} (ha : a < k.format.infRung) : k.format.read (sg k a) = (k.format.read a).opposite := by
  unfold sg
  rw [read_negd k.format ha, read_pos k.format ha]; rfl
theorem read_sgn {a : Nat} (ha : a < k.format.infRung) : k.format.read (sg k a) = .number true (mg k.format a) (pl k.format a) := read_negd k.format ha
theorem order_sg {a c : Nat} (ha : a < k.format.infRung) (hc : c < k.format.infRung) : k.format.order (sg k a) (sg k c) = k.format.order c a := by
  unfold Format.order
  rw [read_sg k ha, read_sg k hc, order_opp]
theorem sub_sg {a c : Nat} (ha : a < k.format.infRung) (hc : c < k.format.infRung) : fop .sub k (sg k a) (sg k c) = fop .sub k c a := by
  simp only [fop, Format.sub]
  rw [read_sg k ha, read_sg k hc, opp_opp, sum_comm]
end
def GG : Nat := 2 ^ 1074
theorem gg_pos : 0 < GG := Nat.two_pow_pos _
theorem least64 : Ieee.double.leastPlace = -1074 := by decide
/-- a whole number's float64, and its value -/
theorem int_word {m : Nat} (hm : m < 2 ^ 53) : floatOfInt .f64 (m : Int) < INF ∧ v Ieee.double (floatOfInt .f64 (m : Int)) = m * GG := by
  obtain ⟨j, hj⟩ := read_int hm
  have hle : floatOfInt .f64 (m : Int) ≤ INF := by
    unfold floatOfInt FloatKind.nearest FloatKind.encode
    rw [decide_eq_false (by omega), ← inf_eq]
    exact nearest_le _ _ _
  have hlt : floatOfInt .f64 (m : Int) < INF := by
    rcases Nat.lt_or_ge (floatOfInt .f64 (m : Int)) INF with h | h
    · exact h
    · have he : floatOfInt .f64 (m : Int) = INF := by omega
      rw [he] at hj
      have hi : Ieee.double.read INF = .infinity false := by decide
      rw [hi] at hj; cases hj
  refine ⟨hlt, ?_⟩
  rw [read_pos _ (by rw [inf_eq]; exact hlt)] at hj
  injection hj with _ h1 h2
  have hp := pl_ge Ieee.double (floatOfInt .f64 (m : Int))
  rw [least64] at hp
  unfold v
  rw [h1, h2, least64, Nat.mul_assoc, ← Nat.pow_add]
  have e : j + (-(j : Int) - -1074).toNat = 1074 := by omega
  rw [e]; rfl
theorem nearest_sg (f : Format) (m : Nat) (e : Int) : f.nearest true m e = f.signWeight + f.nearest false m e := by
  rw [nearest_rung, nearest_rung]; unfold Format.word; simp
theorem floatOfInt_pos (m : Nat) : floatOfInt .f64 (m : Int) = Ieee.double.nearest false m 0 := by
  unfold floatOfInt FloatKind.nearest FloatKind.encode
  rw [decide_eq_false (by omega)]; rfl
theorem toInt_neg {m : Nat} (hm : m < 2 ^ 53) : floatToIntVal .f64 (sg .f64 (floatOfInt .f64 m)) .i64 = some (-(m : Int)) := by
  obtain ⟨j, hj⟩ := read_int hm
  have hl := (int_word hm).1
  have hr := read_sg .f64 (a := floatOfInt .f64 (m : Int)) (by rw [show FloatKind.f64.format = Ieee.double from rfl, inf_eq]; exact hl)
  rw [show FloatKind.f64.format = Ieee.double from rfl, hj] at hr
  unfold floatToIntVal
  rw [show FloatKind.f64.decode (sg .f64 (floatOfInt .f64 m)) = Ieee.double.read (sg .f64 (floatOfInt .f64 m)) from rfl, hr]
  have hi : (Datum.number true (m * 2 ^ j) (-(j : Int))).toInt .zero = some (-(m : Int)) := by
    simp only [Datum.toInt, Datum.integral]
    have a1 : (-(j : Int)).toNat = 0 := by omega
    have a2 : (- -(j : Int)).toNat = j := by omega
    rw [a1, a2]
    have hc : Toward.zero.cut true ((m * 2 ^ j) <<< 0) j = m := by
      have : Toward.zero.cut true ((m * 2 ^ j) <<< 0) j = Toward.down.cut false ((m * 2 ^ j) <<< 0) j := rfl
      rw [this, cut_down, Nat.shiftLeft_eq, Nat.pow_zero, Nat.mul_one, Nat.mul_div_cancel _ (Nat.two_pow_pos _)]
    rw [hc]
    simp [signed]
  simp only [Datum.opposite, Bool.not_false, hi]
  rw [if_pos]
  have : IntKind.i64.min = -9223372036854775808 ∧ IntKind.i64.max = 9223372036854775807 := by decide
  omega
theorem up_sg {a : Nat} (ha : a < 2139095040) : up (sg .f32 a) = sg .f64 (up a) := by
  have e2 : FloatKind.f32.format.infRung = 2139095040 := by decide
  have r2 := read_sgn .f32 (a := a) (by rw [e2]; exact ha)
  have r1 := read_pos FloatKind.f32.format (x := a) (by rw [e2]; exact ha)
  obtain ⟨u1, _⟩ := up_number (b := sg .f32 a) r2
  obtain ⟨u2, _⟩ := up_number (b := a) r1
  rw [u1, u2]
  show Ieee.double.nearest _ _ _ = sg .f64 (Ieee.double.nearest _ _ _)
  rw [nearest_sg]; rfl

end Go.Proofs.Ytmhgcflccaflpaa.Fl
