
/-
Powers of two as float64s: products with them and quotients by them are exact.
-/
import Derived.Test.YtmhgcflccaflpaaNf
namespace Go.Proofs.Ytmhgcflccaflpaa.Fl
open Ieee Go

def B52 : Nat := 4503599627370496
def INF : Nat := 9218868437227405312
theorem b52_pos : 0 < B52 := by decide
theorem b52_eq : Ieee.double.binade = B52 := by decide
theorem inf_eq : Ieee.double.infRung = INF := by decide
theorem mg_norm {x : Nat} (h : B52 ≤ x) : mg Ieee.double x = B52 + x % B52 := by unfold mg; rw [b52_eq, if_neg (by omega)]
theorem pl_norm {x : Nat} (h : B52 ≤ x) : pl Ieee.double x = -1074 + ((x / B52 : Nat) : Int) - 1 := by
  have h1 : 1 ≤ x / B52 := (Nat.one_le_div_iff b52_pos).2 h
  have e : Ieee.double.leastPlace = -1074 := by decide
  unfold pl; rw [b52_eq, if_neg (by omega), e]; omega
theorem log2_norm {x : Nat} (h : B52 ≤ x) : (mg Ieee.double x).log2 = 52 := by
  rw [mg_norm h, ← b52_eq]
  exact log2_binade Ieee.double _ (Nat.mod_lt _ (by rw [b52_eq]; exact b52_pos))
theorem near_norm {r : Nat} (h : B52 ≤ r) (h' : r < INF) : Ieee.double.nearest false (B52 + r % B52) (-1074 + ((r / B52 : Nat) : Int) - 1) = r := by
  rw [← mg_norm h, ← pl_norm h, nearest_rung, rung_exact, Nat.min_eq_left (by rw [inf_eq]; omega)]
  rfl
theorem pw_parts (e : Nat) (he : 1 ≤ e) (he' : e ≤ 2046) : B52 ≤ e * B52 ∧ e * B52 < INF ∧ e * B52 % B52 = 0 ∧ e * B52 / B52 = e := by
  refine ⟨?_, ?_, Nat.mul_mod_left .., Nat.mul_div_cancel _ b52_pos⟩
  · have := Nat.mul_le_mul_right B52 he; omega
  · have h1 := Nat.mul_le_mul_right B52 he'
    have h2 : 2046 * B52 < INF := by decide
    omega
theorem two52 : B52 = 2 ^ 52 := by decide
theorem two54 : 4 * B52 = 2 ^ 54 := by decide
theorem near_mul {r : Nat} (hr : B52 ≤ r) (hr' : r < INF) (E : Int) (hE : E = -1074 + ((r / B52 : Nat) : Int) - 1 - 52) : Ieee.double.nearest false ((B52 + r % B52) * B52) E = r := by
  have m := nearest_scale Ieee.double false (B52 + r % B52) 52 (-1074 + ((r / B52 : Nat) : Int) - 1)
  rw [near_norm hr hr', ← two52] at m
  rw [hE]
  exact m
theorem near_eight {r : Nat} (hr : B52 ≤ r) (hr' : r < INF) (E : Int) (hE : E = -1074 + ((r / B52 : Nat) : Int) - 1 - 3) : Ieee.double.nearest false (2 * ((B52 + r % B52) * 4)) E = r := by
  have m := nearest_scale Ieee.double false (B52 + r % B52) 3 (-1074 + ((r / B52 : Nat) : Int) - 1)
  rw [near_norm hr hr'] at m
  rw [hE, show 2 * ((B52 + r % B52) * 4) = (B52 + r % B52) * 2 ^ 3 by omega]
  exact m
theorem mul_read (x y : Nat) (hx : x < INF) (hy : y < INF) : fop .mul .f64 x y = Ieee.double.nearest false (mg Ieee.double x * mg Ieee.double y) (pl Ieee.double x + pl Ieee.double y) := by
  simp only [fop, Format.mul]
  rw [show FloatKind.f64.format = Ieee.double from rfl, read_pos _ (by rw [inf_eq]; exact hx), read_pos _ (by rw [inf_eq]; exact hy)]
  simp only [Datum.product, Bool.false_xor, Option.map_some, Option.getD_some]
  rfl
theorem rem_same {x r c d : Nat} (h : r + c * B52 = x + d * B52) : x % B52 = r % B52 := by
  have := congrArg (· % B52) h
  simp only [Nat.add_mul_mod_self_right] at this
  exact this.symm
theorem quo_same {x r c d : Nat} (h : r + c * B52 = x + d * B52) : r / B52 + c = x / B52 + d := by
  have := congrArg (· / B52) h
  simp only [Nat.add_mul_div_right _ _ b52_pos] at this
  exact this
theorem mul_pw {x e r : Nat} (hx : B52 ≤ x) (hx' : x < INF) (he : 1 ≤ e) (he' : e ≤ 2046) (hr : B52 ≤ r) (hr' : r < INF) (h : r + 1023 * B52 = x + e * B52) : fop .mul .f64 x (e * B52) = r := by
  obtain ⟨y1, y2, y3, y4⟩ := pw_parts e he he'
  have q1 := rem_same h
  have q2 := quo_same h
  rw [mul_read x _ hx' y2, mg_norm hx, mg_norm y1, pl_norm hx, pl_norm y1, y3, y4, q1, Nat.add_zero]
  refine near_mul hr hr' _ ?_
  clear h y1 y2 y3 y4 hx hx' hr hr' q1
  generalize x / B52 = X at *
  generalize r / B52 = R at *
  omega
theorem quo_read (x y : Nat) (hx : B52 ≤ x) (hx' : x < INF) (hy : B52 ≤ y) (hy' : y < INF) (h0 : y % B52 = 0) : fop .quo .f64 x y = Ieee.double.nearest false (2 * ((B52 + x % B52) * 4)) (pl Ieee.double x - pl Ieee.double y - 54 - 1) := by
  have l1 := log2_norm hx
  have l2 := log2_norm hy
  have hb : B52 ≠ 0 := Nat.ne_of_gt b52_pos
  have e0 : Ieee.double.fractionBits + 2 + 52 - 52 = 54 := by decide
  have e2 : mg Ieee.double x <<< 54 = mg Ieee.double x * 4 * B52 := by rw [Nat.shiftLeft_eq, ← two54, Nat.mul_assoc]
  have e3 : mg Ieee.double y = B52 := by rw [mg_norm hy, h0, Nat.add_zero]
  rw [e3] at l2
  have hq : (Datum.number false (mg Ieee.double x) (pl Ieee.double x)).quotient (Ieee.double.fractionBits + 2) (Datum.number false (mg Ieee.double y) (pl Ieee.double y)) = some (.number false (2 * (mg Ieee.double x * 4) + 0) (pl Ieee.double x - pl Ieee.double y - (54 : Nat) - 1)) := by
    rw [e3]
    unfold Datum.quotient
    simp only [l1, l2, e0, e2, Nat.mul_div_cancel _ b52_pos, Nat.mul_mod_left, if_neg hb, Bool.false_xor]
    rfl
  simp only [fop, Format.div]
  rw [show FloatKind.f64.format = Ieee.double from rfl, read_pos _ (by rw [inf_eq]; exact hx'), read_pos _ (by rw [inf_eq]; exact hy'), hq, mg_norm hx]
  rfl
theorem quo_pw {x e r : Nat} (hx : B52 ≤ x) (hx' : x < INF) (he : 1 ≤ e) (he' : e ≤ 2046) (hr : B52 ≤ r) (hr' : r < INF) (h : r + e * B52 = x + 1023 * B52) : fop .quo .f64 x (e * B52) = r := by
  obtain ⟨y1, y2, y3, y4⟩ := pw_parts e he he'
  have q1 := rem_same h
  have q2 := quo_same h
  rw [quo_read x _ hx hx' y1 y2 y3, pl_norm hx, pl_norm y1, y4, q1]
  refine near_eight hr hr' _ ?_
  clear h y1 y2 y3 y4 hx hx' hr hr' q1
  generalize x / B52 = X at *
  generalize r / B52 = R at *
  omega
/-- twice, and half of, a number -/
theorem twice {x : Nat} (hx : B52 ≤ x) (hx' : x + B52 < INF) : fop .mul .f64 x 4611686018427387904 = x + B52 := by
  have e : (4611686018427387904 : Nat) = 1024 * B52 := by decide
  rw [e]; exact mul_pw hx (by omega) (by omega) (by omega) (by omega) hx' (by omega)
theorem half {x : Nat} (hx : 2 * B52 ≤ x) (hx' : x < INF) : fop .quo .f64 x 4611686018427387904 = x - B52 := by
  have e : (4611686018427387904 : Nat) = 1024 * B52 := by decide
  rw [e]; exact quo_pw (by omega) hx' (by omega) (by omega) (by omega) (by omega) (by omega)
theorem mul_comm_f (k : FloatKind) (x y : Nat) : fop .mul k x y = fop .mul k y x := by
  simp only [fop, Format.mul]
  congr 2
  cases k.format.read x <;> cases k.format.read y <;> simp [Datum.product, Nat.mul_comm, Int.add_comm, Bool.xor_comm]
/-- one times a number -/
theorem one_mul_f {x : Nat} (hx : B52 ≤ x) (hx' : x < INF) : fop .mul .f64 4607182418800017408 x = x := by
  have e : (4607182418800017408 : Nat) = 1023 * B52 := by decide
  rw [mul_comm_f, e]; exact mul_pw hx hx' (by omega) (by omega) hx hx' rfl
/-- the power of two for k from -1022 to 1023 -/
def pw2 (k : Int) : Nat := (k + 1023).toNat * B52
end Go.Proofs.Ytmhgcflccaflpaa.Fl
