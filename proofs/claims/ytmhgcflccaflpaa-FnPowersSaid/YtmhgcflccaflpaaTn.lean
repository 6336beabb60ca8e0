
/-
The power of two, over whole numbers: the floor of a float64 of either sign, what is left of it, the rounds of the polynomial.
-/
import Derived.Test.YtmhgcflccaflpaaTw
import Derived.Test.YtmhgcflccaflpaaCc
namespace Go.Proofs.Ytmhgcflccaflpaa.Fl
open Ieee Go Go.RowKit
set_option exponentiation.threshold 2000

def ONE : Nat := 4607182418800017408
def LN2 : Nat := 4604418534313441775
def FOUR : Nat := 4616189618054758400

theorem order_opp (d1 d2 : Datum) : d1.opposite.order d2.opposite = d2.order d1 := by
  cases d1 with
  | nan s t => cases d2 <;> rfl
  | infinity s => cases d2 with
    | nan s t => rfl
    | infinity t => cases s <;> cases t <;> rfl
    | number t n j => cases s <;> rfl
  | number s m i => cases d2 with
    | nan s t => rfl
    | infinity t => cases t <;> rfl
    | number t n j =>
      simp only [Datum.opposite, Datum.order]
      rw [show min j i = min i j by omega]
      have key : ∀ (s : Bool) (m k : Nat), signed (!s) m k = -signed s m k := by
        intro s m k; cases s <;> simp [signed]
      rw [key, key]
      congr 1
      generalize signed s m (i - min i j).toNat = A
      generalize signed t n (j - min i j).toNat = B
      rcases Int.lt_trichotomy A B with h | h | h
      · rw [(Int.compare_eq_gt (a := B) (b := A)).2 h, (Int.compare_eq_gt (a := -A) (b := -B)).2 (by omega)]
      · rw [h]; simp
      · rw [(Int.compare_eq_lt (a := B) (b := A)).2 h, (Int.compare_eq_lt (a := -A) (b := -B)).2 (by omega)]
theorem sum_comm (d1 d2 : Datum) : d1.sum d2 = d2.sum d1 := by
  cases d1 with
  | nan s t => cases d2 <;> rfl
  | infinity s => cases d2 with
    | nan s t => rfl
    | infinity t => cases s <;> cases t <;> rfl
    | number t n j => rfl
  | number s m i => cases d2 with
    | nan s t => rfl
    | infinity t => rfl
    | number t n j =>
      simp only [Datum.sum]
      rw [show min j i = min i j by omega, Int.add_comm, Bool.and_comm]
theorem opp_opp (d : Datum) : d.opposite.opposite = d := by cases d <;> simp [Datum.opposite]

section
variable (k : FloatKind)
/-- a word with its sign set -/
def sg (k : FloatKind) (a : Nat) : Nat := k.format.signWeight + a
theorem read_sg {a : Nat} (ha : a < k.format.infRung) : k.format.read (sg k a) = (k.format.read a).opposite := by
  unfold sg
  rw [read_negd k.format ha, read_pos k.format ha]; rfl
theorem read_sgn {a : Nat} (ha : a < k.format.infRung) : k.format.read (sg k a) = .number true (mg k.format a) (pl k.format a) := read_negd k.format ha
theorem order_sg {a c : Nat} (ha : a < k.format.infRung) (hc : c < k.format.infRung) : k.format.order (sg k a) (sg k c) = k.format.order c a := by
  unfold Format.order
  rw [read_sg k ha, read_sg k hc, order_opp]
theorem sub_sg {a c : Nat} (ha : a < k.format.infRung) (hc : c < k.format.infRung) : fop .sub k (sg k a) (sg k c) = fop .sub k c a := by
  simp only [fop, Format.sub]
  rw [read_sg k ha, read_sg k hc, opp_opp, sum_comm]
end

def GG : Nat := 2 ^ 1074
theorem gg_pos : 0 < GG := Nat.two_pow_pos _
theorem v_one : v Ieee.double ONE = GG := by decide +kernel
theorem least64 : Ieee.double.leastPlace = -1074 := by decide
/-- a whole number's float64, and its value -/
theorem int_word {m : Nat} (hm : m < 2 ^ 53) : floatOfInt .f64 (m : Int) < INF ∧ v Ieee.double (floatOfInt .f64 (m : Int)) = m * GG := by
  obtain ⟨j, hj⟩ := read_int hm
  have hle : floatOfInt .f64 (m : Int) ≤ INF := by
    unfold floatOfInt FloatKind.nearest FloatKind.encode
    rw [decide_eq_false (by omega), ← inf_eq]
    exact nearest_le _ _ _
  have hlt : floatOfInt .f64 (m : Int) < INF := by
    rcases Nat.lt_or_ge (floatOfInt .f64 (m : Int)) INF with h | h
    · exact h
    · have he : floatOfInt .f64 (m : Int) = INF := by omega
      rw [he] at hj
      have hi : Ieee.double.read INF = .infinity false := by decide
      rw [hi] at hj; cases hj
  refine ⟨hlt, ?_⟩
  rw [read_pos _ (by rw [inf_eq]; exact hlt)] at hj
  injection hj with _ h1 h2
  have hp := pl_ge Ieee.double (floatOfInt .f64 (m : Int))
  rw [least64] at hp
  unfold v
  rw [h1, h2, least64, Nat.mul_assoc, ← Nat.pow_add]
  have e : j + (-(j : Int) - -1074).toNat = 1074 := by omega
  rw [e]; rfl
/-- what is left of a number behind its whole part is from 0 to 1 -/
theorem sub_frac {x y : Nat} (hx : x < INF) (h1 : v Ieee.double y ≤ v Ieee.double x) (h2 : v Ieee.double x ≤ v Ieee.double y + GG) : fop .sub .f64 x y ≤ ONE := by
  have hy : y ≤ x := le_of_v _ h1
  have e : fop .sub .f64 x y = min (rung Ieee.double (v Ieee.double x - v Ieee.double y) Ieee.double.leastPlace) Ieee.double.infRung := by
    simp only [fop]
    rw [show FloatKind.f64.format = Ieee.double from rfl, sub_pos Ieee.double (by rw [inf_eq]; exact hx) hy]; rfl
  rw [e]
  refine Nat.le_trans (Nat.min_le_left _ _) ?_
  have := rung_mono Ieee.double Ieee.double.leastPlace (show v Ieee.double x - v Ieee.double y ≤ v Ieee.double ONE by rw [v_one]; omega)
  rwa [rung_v] at this

/-- the ceiling of a positive float64 -/
def ceil (x : Nat) : Nat := (v Ieee.double x + (GG - 1)) / GG
theorem cut_ceil (n d : Nat) : Toward.down.cut true n d = (n + (2 ^ d - 1)) / 2 ^ d := by
  unfold Toward.cut
  simp only [Nat.one_shiftLeft, Bool.true_and]
  have gen : ∀ g, 0 < g → n / g + (n % g != 0).toNat = (n + (g - 1)) / g := by
    intro g hg
    have e := Nat.div_add_mod n g
    by_cases h0 : n % g = 0
    · rw [h0]
      simp only [bne_self_eq_false, Bool.toNat_false, Nat.add_zero]
      rw [h0, Nat.add_zero] at e
      symm
      apply Nat.div_eq_of_lt_le
      · rw [Nat.mul_comm]; omega
      · rw [Nat.add_mul, Nat.one_mul, Nat.mul_comm]; omega
    · have hb : (n % g != 0) = true := by simpa using h0
      rw [hb, Bool.toNat_true]
      have hl := Nat.mod_lt n hg
      symm
      apply Nat.div_eq_of_lt_le
      · rw [Nat.add_mul, Nat.one_mul, Nat.mul_comm]; omega
      · rw [Nat.add_mul, Nat.add_mul, Nat.one_mul, Nat.mul_comm]; omega
  by_cases hd : d ≤ n.log2 + 2
  · rw [Nat.min_eq_left hd]; exact gen _ (Nat.two_pow_pos _)
  · rw [Nat.min_eq_right (by omega), gen _ (Nat.two_pow_pos _)]
    have hn : n < 2 ^ (n.log2 + 1) := Nat.lt_log2_self
    have h1 : 2 ^ (n.log2 + 1) ≤ 2 ^ (n.log2 + 2) := Nat.pow_le_pow_right (by decide) (by omega)
    have h2 : 2 ^ (n.log2 + 1) ≤ 2 ^ d := Nat.pow_le_pow_right (by decide) (by omega)
    have both : ∀ g, n ≤ g → 0 < g → (n + (g - 1)) / g = if n = 0 then 0 else 1 := by
      intro g hg h0
      split
      · apply Nat.div_eq_of_lt; omega
      · apply Nat.div_eq_of_lt_le <;> omega
    rw [both _ (by omega) (Nat.two_pow_pos _), both _ (by omega) (Nat.two_pow_pos _)]
theorem nearest_sg (f : Format) (m : Nat) (e : Int) : f.nearest true m e = f.signWeight + f.nearest false m e := by
  rw [nearest_rung, nearest_rung]; unfold Format.word; simp
theorem floatOfInt_pos (m : Nat) : floatOfInt .f64 (m : Int) = Ieee.double.nearest false m 0 := by
  unfold floatOfInt FloatKind.nearest FloatKind.encode
  rw [decide_eq_false (by omega)]; rfl
theorem whole_ceil {a : Nat} (ha : a < INF) : whole .down (sg .f64 a) = sg .f64 (floatOfInt .f64 (ceil a : Nat)) := by
  have hr := read_sgn .f64 (a := a) (by rw [show FloatKind.f64.format = Ieee.double from rfl, inf_eq]; exact ha)
  rw [show FloatKind.f64.format = Ieee.double from rfl] at hr
  have hn : isNaN .f64 (sg .f64 a) = false := by unfold isNaN; rw [show FloatKind.f64.format = Ieee.double from rfl, hr]; rfl
  unfold whole
  rw [hn]
  simp only [Bool.false_eq_true, if_false]
  rw [hr]
  simp only [Datum.integral, Nat.shiftLeft_eq, cut_ceil]
  have sc : ∀ n g c : Nat, 0 < c → (n * c + (g * c - 1)) / (g * c) = (n + (g - 1)) / g := by
    intro n g c hc
    rcases Nat.eq_zero_or_pos g with rfl | hg
    · simp
    · have e := Nat.div_add_mod (n + (g - 1)) g
      have hl := Nat.mod_lt (n + (g - 1)) hg
      generalize hq : (n + (g - 1)) / g = q at *
      generalize (n + (g - 1)) % g = r at *
      apply Nat.div_eq_of_lt_le
      · have h1 : g * q ≤ n + (g - 1) := by omega
        rcases Nat.eq_zero_or_pos q with rfl | hq0
        · simp
        · have h2 : g * q - (g - 1) ≤ n := by omega
          have h3 := Nat.mul_le_mul_right c h2
          have h4 : g ≤ g * q := Nat.le_mul_of_pos_right _ hq0
          rw [Nat.sub_mul, Nat.sub_mul, Nat.one_mul] at h3
          have h5 : c ≤ g * c := Nat.le_mul_of_pos_left _ hg
          have h6 : q * (g * c) = g * q * c := by rw [Nat.mul_comm g q, Nat.mul_assoc]
          have h7 : g * c ≤ g * q * c := Nat.mul_le_mul_right c h4
          omega
      · have h1 : n < g * q + 1 := by omega
        have h2 : n * c ≤ g * q * c := Nat.mul_le_mul_right c (by omega)
        have h6 : (q + 1) * (g * c) = g * q * c + g * c := by rw [Nat.add_mul, Nat.one_mul, Nat.mul_comm g q, Nat.mul_assoc]
        have h5 : 0 < g * c := Nat.mul_pos hg hc
        omega
  rw [over Ieee.double 1074 (by decide) a (fun n g => (n + (g - 1)) / g) sc]
  show Ieee.double.nearest true ((v Ieee.double a + (2 ^ 1074 - 1)) / 2 ^ 1074) 0 = _
  rw [show (v Ieee.double a + (2 ^ 1074 - 1)) / 2 ^ 1074 = ceil a by unfold ceil GG; rfl, nearest_sg, floatOfInt_pos]; rfl
theorem toInt_neg {m : Nat} (hm : m < 2 ^ 53) : floatToIntVal .f64 (sg .f64 (floatOfInt .f64 m)) .i64 = some (-(m : Int)) := by
  obtain ⟨j, hj⟩ := read_int hm
  have hl := (int_word hm).1
  have hr := read_sg .f64 (a := floatOfInt .f64 (m : Int)) (by rw [show FloatKind.f64.format = Ieee.double from rfl, inf_eq]; exact hl)
  rw [show FloatKind.f64.format = Ieee.double from rfl, hj] at hr
  unfold floatToIntVal
  rw [show FloatKind.f64.decode (sg .f64 (floatOfInt .f64 m)) = Ieee.double.read (sg .f64 (floatOfInt .f64 m)) from rfl, hr]
  have hi : (Datum.number true (m * 2 ^ j) (-(j : Int))).toInt .zero = some (-(m : Int)) := by
    simp only [Datum.toInt, Datum.integral]
    have a1 : (-(j : Int)).toNat = 0 := by omega
    have a2 : (- -(j : Int)).toNat = j := by omega
    rw [a1, a2]
    have hc : Toward.zero.cut true ((m * 2 ^ j) <<< 0) j = m := by
      have : Toward.zero.cut true ((m * 2 ^ j) <<< 0) j = Toward.down.cut false ((m * 2 ^ j) <<< 0) j := rfl
      rw [this, cut_down, Nat.shiftLeft_eq, Nat.pow_zero, Nat.mul_one, Nat.mul_div_cancel _ (Nat.two_pow_pos _)]
    rw [hc]
    simp [signed]
  simp only [Datum.opposite, Bool.not_false, hi]
  rw [if_pos]
  have : IntKind.i64.min = -9223372036854775808 ∧ IntKind.i64.max = 9223372036854775807 := by decide
  omega
/-! ### numbers of either sign up to a bound -/
theorem insB_sg {b h : Nat} (hb : b < 4294967296) (hh : h < 2139095040) (hi : insB b (sg .f32 h) h = true) : b ≤ h ∨ ∃ a, a ≤ h ∧ b = sg .f32 a := by
  have e1 : FloatKind.f32.format.signWeight = 2147483648 := by decide
  have e2 : FloatKind.f32.format.infRung = 2139095040 := by decide
  have hn : isNaN .f32 b = false := by
    cases hn : isNaN .f32 b
    · rfl
    · exfalso
      unfold insB at hi
      rw [order_nan_left _ hn] at hi
      simp at hi
  have hm : b % 2147483648 ≤ 2139095040 := by
    refine Nat.not_lt.1 fun hlt => ?_
    have := read_nan32 b hlt
    unfold isNaN at hn
    rw [show FloatKind.f32.format.read b = Ieee.single.read b from rfl, this] at hn
    cases hn
  unfold insB at hi
  simp only [Bool.and_eq_true, Bool.or_eq_true, beq_iff_eq] at hi
  obtain ⟨hi1, hi2⟩ := hi
  by_cases hs : b < 2147483648
  · left
    rw [Nat.mod_eq_of_lt hs] at hm
    exact le_of_order (by rw [e2]; exact hm) (by rw [e2]; exact hh) hi2
  · right
    have hb2 : b = sg .f32 (b % 2147483648) := by unfold sg; rw [e1]; omega
    generalize b % 2147483648 = a at *
    subst hb2
    refine ⟨a, ?_, rfl⟩
    have hlt : a < 2139095040 := by
      refine Nat.lt_of_le_of_ne hm fun he => ?_
      subst he
      have r1 : FloatKind.f32.format.read (sg .f32 2139095040) = .infinity true := by decide
      have r2 := read_sgn .f32 (a := h) (by rw [e2]; exact hh)
      unfold Format.order at hi1
      rw [r1, r2] at hi1
      simp [Datum.order] at hi1
    rw [order_sg .f32 (by rw [e2]; exact hlt) (by rw [e2]; exact hh), order_pos _ (by rw [e2]; exact hh) (by rw [e2]; exact hlt)] at hi1
    rcases hi1 with h | h
    · have := Nat.compare_eq_gt.1 (Option.some.inj h); omega
    · have := Nat.compare_eq_eq.1 (Option.some.inj h); omega
theorem up_sg {a : Nat} (ha : a < 2139095040) : up (sg .f32 a) = sg .f64 (up a) := by
  have e2 : FloatKind.f32.format.infRung = 2139095040 := by decide
  have r2 := read_sgn .f32 (a := a) (by rw [e2]; exact ha)
  have r1 := read_pos FloatKind.f32.format (x := a) (by rw [e2]; exact ha)
  obtain ⟨u1, _⟩ := up_number (b := sg .f32 a) r2
  obtain ⟨u2, _⟩ := up_number (b := a) r1
  rw [u1, u2]
  show Ieee.double.nearest _ _ _ = sg .f64 (Ieee.double.nearest _ _ _)
  rw [nearest_sg]; rfl

def kOf (b : Nat) : Int := (floatToIntVal .f64 (whole .down (up b)) .i64).getD 0
def polyS (y : Nat) : Nat → Nat
  | 0 => ONE
  | j + 1 => fop .add .f64 ONE (fop .mul .f64 (fop .quo .f64 y (floatOfInt .f64 (14 - (j : Int)))) (polyS y j))
def twoY (b : Nat) : Nat := fop .mul .f64 (fop .sub .f64 (up b) (whole .down (up b))) LN2
def twoD (b : Nat) : Nat := (((polyS (twoY b) 14 / B52 : Nat) : Int) + kOf b).toNat * B52 + polyS (twoY b) 14 % B52
theorem one_lt : ONE < INF ∧ LN2 < INF ∧ FOUR < INF ∧ B52 ≤ ONE := by decide
theorem flo_gg (x : Nat) : flo x = v Ieee.double x / GG := rfl
theorem two_pre {b : Nat} (hb : b < 4294967296) (h : insB b 3270508544 1123024896 = true) :
    ∃ (kk : Int) (K D Y : Nat), isNaN .f32 b = false ∧ whole .down (up b) = K ∧ isNaN .f64 K = false ∧ floatToIntVal .f64 K .i64 = some kk ∧ -120 ≤ kk ∧ kk ≤ 120 ∧
      fop .sub .f64 (up b) K = D ∧ isNaN .f64 D = false ∧ fop .mul .f64 D LN2 = Y ∧ Y ≤ LN2 ∧ kOf b = kk ∧ twoY b = Y := by
  have hi32 : FloatKind.f32.format.infRung = 2139095040 := by decide
  have key : ∃ (kk : Int) (K D : Nat), isNaN .f32 b = false ∧ whole .down (up b) = K ∧ isNaN .f64 K = false ∧ floatToIntVal .f64 K .i64 = some kk ∧ -120 ≤ kk ∧ kk ≤ 120 ∧
      fop .sub .f64 (up b) K = D ∧ D ≤ ONE := by
    have hU : up 1123024896 < INF := by decide +kernel
    have hV : v Ieee.double (up 1123024896) = 120 * GG := by decide +kernel
    have hG := gg_pos
    rcases insB_sg (h := 1123024896) hb (by decide) h with hp | ⟨a, ha, rfl⟩
    · have hx : up b ≤ up 1123024896 := up_mono (by decide) hp
      have hlt : up b < INF := Nat.lt_of_le_of_lt hx hU
      have hv := v_le Ieee.double hx
      rw [hV] at hv
      have hf : flo (up b) ≤ 120 := by
        rw [flo_gg]
        have := Nat.div_le_div_right (c := GG) hv
        rwa [Nat.mul_div_cancel _ hG] at this
      have hw := int_word (m := flo (up b)) (Nat.lt_of_le_of_lt hf (by decide))
      have e1 := Nat.div_add_mod (v Ieee.double (up b)) GG
      have e2 := Nat.mod_lt (v Ieee.double (up b)) hG
      refine ⟨(flo (up b) : Nat), _, _, isNaN_pos (by rw [hi32]; omega), whole_down (by rw [inf_eq]; exact hlt), isNaN_int _ _, toInt_int (Nat.lt_of_le_of_lt hf (by decide)), by omega, by omega, rfl, ?_⟩
      refine sub_frac hlt ?_ ?_
      · rw [hw.2, flo_gg, Nat.mul_comm]; omega
      · rw [hw.2, flo_gg, Nat.mul_comm]; omega
    · have ha' : a < 2139095040 := Nat.lt_of_le_of_lt ha (by decide)
      have hx : up a ≤ up 1123024896 := up_mono (by decide) ha
      have hlt : up a < INF := Nat.lt_of_le_of_lt hx hU
      have hv := v_le Ieee.double hx
      rw [hV] at hv
      have hc1 : ceil (up a) * GG ≤ v Ieee.double (up a) + (GG - 1) := Nat.div_mul_le_self _ _
      have hc2 : v Ieee.double (up a) ≤ ceil (up a) * GG := by
        unfold ceil
        have := Nat.lt_mul_div_succ (v Ieee.double (up a) + (GG - 1)) hG
        rw [Nat.mul_succ, Nat.mul_comm] at this
        omega
      have hf : ceil (up a) ≤ 120 := by
        refine Nat.not_lt.1 fun hgt => ?_
        have : 121 * GG ≤ ceil (up a) * GG := Nat.mul_le_mul_right _ hgt
        have e : 121 * GG = 120 * GG + GG := by rw [Nat.succ_mul]
        omega
      have hw := int_word (m := ceil (up a)) (Nat.lt_of_le_of_lt hf (by decide))
      have hn : isNaN .f32 (sg .f32 a) = false := by
        unfold isNaN
        rw [read_sg .f32 (by rw [hi32]; exact ha'), read_pos _ (by rw [hi32]; exact ha')]; rfl
      have hnK : isNaN .f64 (sg .f64 (floatOfInt .f64 (ceil (up a) : Nat))) = false := by
        unfold isNaN
        rw [read_sg .f64 (by rw [show FloatKind.f64.format = Ieee.double from rfl, inf_eq]; exact hw.1), read_pos _ (by rw [show FloatKind.f64.format = Ieee.double from rfl, inf_eq]; exact hw.1)]; rfl
      refine ⟨-(ceil (up a) : Nat), sg .f64 (floatOfInt .f64 (ceil (up a) : Nat)), _, hn, by rw [up_sg ha', whole_ceil hlt], hnK, toInt_neg (Nat.lt_of_le_of_lt hf (by decide)), by omega, by omega, rfl, ?_⟩
      rw [up_sg ha', sub_sg .f64 (by rw [show FloatKind.f64.format = Ieee.double from rfl, inf_eq]; exact hlt) (by rw [show FloatKind.f64.format = Ieee.double from rfl, inf_eq]; exact hw.1)]
      refine sub_frac hw.1 ?_ ?_
      · rw [hw.2]; exact hc2
      · rw [hw.2]; omega
  obtain ⟨kk, K, D, a1, a2, a3, a4, a5, a6, a7, a8⟩ := key
  have hY : fop .mul .f64 D LN2 ≤ LN2 := by
    have := fmul_mono (k := .f64) (x := D) (y := LN2) (X := ONE) (Y := LN2) (by decide) (by decide) a8 (Nat.le_refl _)
    have e : fop .mul .f64 ONE LN2 = LN2 := by decide +kernel
    omega
  refine ⟨kk, K, D, _, a1, a2, a3, a4, a5, a6, a7, isNaN_pos (Nat.le_trans a8 (by decide)), rfl, hY, ?_, ?_⟩
  · unfold kOf; rw [a2, a4]; rfl
  · unfold twoY; rw [a2, a7]
theorem quo_small {y : Nat} (hy : y ≤ LN2) {m : Nat} (h1 : 1 ≤ m) (h2 : m < 2 ^ 53) : fop .quo .f64 y (floatOfInt .f64 (m : Int)) ≤ LN2 := by
  obtain ⟨w1, w2⟩ := int_word h2
  have hl : LN2 < INF := by decide
  have i64 : FloatKind.f64.format.infRung = INF := by decide
  refine fquo_le (by rw [i64]; omega) (by rw [i64]; exact w1) ?_ ?_
  · intro h0
    rw [h0] at w2
    have e : v Ieee.double 0 = 0 := by decide +kernel
    rw [e] at w2
    have : 0 < m * GG := Nat.mul_pos h1 gg_pos
    omega
  · show v Ieee.double y * 2 ^ (-Ieee.double.leastPlace).toNat ≤ v Ieee.double LN2 * v Ieee.double _
    rw [show 2 ^ (-Ieee.double.leastPlace).toNat = GG by rw [least64]; rfl, w2]
    exact Nat.mul_le_mul (v_le _ hy) (Nat.le_mul_of_pos_left _ h1)
theorem poly_bounds {y : Nat} (hy : y ≤ LN2) : ∀ j, j ≤ 14 → ONE ≤ polyS y j ∧ polyS y j ≤ FOUR
  | 0, _ => by unfold polyS; decide
  | j + 1, hj => by
    obtain ⟨h1, h2⟩ := poly_bounds hy j (by omega)
    have i64 : FloatKind.f64.format.infRung = INF := by decide
    have hF : FOUR < INF := by decide
    have hL : LN2 < INF := by decide
    have hq := quo_small hy (m := 14 - j) (by omega) (by omega)
    rw [show ((14 - j : Nat) : Int) = 14 - (j : Int) by omega] at hq
    have hm := fmul_mono (k := .f64) (X := LN2) (Y := FOUR) (by rw [i64]; exact hL) (by rw [i64]; exact hF) hq h2
    have e1 : fop .mul .f64 LN2 FOUR < INF := by decide +kernel
    have e2 : fop .add .f64 ONE (fop .mul .f64 LN2 FOUR) ≤ FOUR := by decide +kernel
    have e3 : fop .add .f64 ONE 0 = ONE := by decide +kernel
    have ha := fadd_mono (k := .f64) (x := ONE) (X := ONE) (by rw [i64]; decide) (by rw [i64]; exact e1) (Nat.le_refl _) hm
    have hb := fadd_mono (k := .f64) (x := ONE) (X := ONE) (y := 0) (by rw [i64]; decide) (by rw [i64]; exact Nat.lt_of_le_of_lt hm e1) (Nat.le_refl _) (Nat.zero_le _)
    unfold polyS
    omega
/-- a round of the polynomial -/
theorem poly_round {y : Nat} (hy : y ≤ LN2) {j : Nat} (hj : j < 14) {S : Nat} (hS : S = polyS y j) :
    ∃ Q P T, fop .quo .f64 y (floatOfInt .f64 (14 - (j : Int))) = Q ∧ (∀ t, nv .f64 Q t = Q) ∧ fop .mul .f64 Q S = P ∧ (∀ t, nv .f64 P t = P) ∧ fop .add .f64 4607182418800017408 P = T ∧ (∀ t, nv .f64 T t = T) ∧ Hid (T = polyS y (j + 1)) := by
  subst hS
  obtain ⟨h1, h2⟩ := poly_bounds hy j (by omega)
  have i64 : FloatKind.f64.format.infRung = INF := by decide
  have hF : FOUR < INF := by decide
  have hL : LN2 < INF := by decide
  have hq := quo_small hy (m := 14 - j) (by omega) (by omega)
  rw [show ((14 - j : Nat) : Int) = 14 - (j : Int) by omega] at hq
  have hm := fmul_mono (k := .f64) (X := LN2) (Y := FOUR) (by rw [i64]; exact hL) (by rw [i64]; exact hF) hq h2
  have e1 : fop .mul .f64 LN2 FOUR < INF := by decide +kernel
  have h3 := poly_bounds hy (j + 1) (by omega)
  exact ⟨_, _, _, rfl, fun t => nv_of t (isNaN_pos (by rw [i64]; omega)), rfl, fun t => nv_of t (isNaN_pos (by rw [i64]; omega)), rfl, fun t => nv_of t (isNaN_pos (by rw [i64]; exact Nat.le_trans h3.2 (Nat.le_of_lt hF))), rfl⟩
theorem two_end {S : Nat} {kk : Int} (h1 : ONE ≤ S) (h2 : S ≤ FOUR) (k1 : -120 ≤ kk) (k2 : kk ≤ 120) :
    ∃ E2 : Nat, B52 ≤ S ∧ S < INF ∧ ((S / B52 : Nat) : Int) + kk = E2 ∧ 1 ≤ E2 ∧ E2 ≤ 2046 ∧ (((S / B52 : Nat) : Int) + kk).toNat = E2 ∧ fop .mul .f64 S (pw2 kk) = E2 * B52 + S % B52 ∧ ovf (E2 * B52 + S % B52) = false ∧ isNaN .f64 (E2 * B52 + S % B52) = false := by
  have hO : ONE = 1023 * B52 := by decide
  have hF : FOUR = 1025 * B52 := by decide
  have hI : INF = 2047 * B52 := by decide
  have hB := b52_pos
  have d1 : 1023 ≤ S / B52 := by rw [Nat.le_div_iff_mul_le hB]; omega
  have d2 : S / B52 ≤ 1025 := by
    have := Nat.div_le_div_right (c := B52) h2
    rwa [hF, Nat.mul_div_cancel _ hB] at this
  have e1 := Nat.div_add_mod S B52
  have e2 := Nat.mod_lt S hB
  rw [Nat.mul_comm] at e1
  obtain ⟨E2, hE⟩ : ∃ E2 : Nat, ((S / B52 : Nat) : Int) + kk = E2 := ⟨(((S / B52 : Nat) : Int) + kk).toNat, by omega⟩
  obtain ⟨e, he⟩ : ∃ e : Nat, kk + 1023 = e := ⟨(kk + 1023).toNat, by omega⟩
  have hp : pw2 kk = e * B52 := by unfold pw2; rw [he]; rfl
  generalize S / B52 = q at *
  have hq : E2 + 1023 = q + e := by omega
  have hq2 : E2 * B52 + 1023 * B52 = q * B52 + e * B52 := by rw [← Nat.add_mul, ← Nat.add_mul, hq]
  have hb1 : 1 * B52 ≤ E2 * B52 := Nat.mul_le_mul_right _ (by omega)
  have hb2 : E2 * B52 ≤ 1145 * B52 := Nat.mul_le_mul_right _ (by omega)
  have hr1 : B52 ≤ E2 * B52 + S % B52 := by omega
  have hr3 : E2 * B52 + S % B52 ≤ 1146 * B52 := by omega
  have hr2 : E2 * B52 + S % B52 < INF := by omega
  refine ⟨E2, by omega, by omega, hE, by omega, by omega, by omega, ?_, ?_, nan_free hr2⟩
  · rw [hp]
    exact mul_pw (by omega) (by omega) (by omega) (by omega) hr1 hr2 (by omega)
  · exact ovf_mono (X := 1146 * B52) (by decide) hr3 (by decide +kernel)
end Go.Proofs.Ytmhgcflccaflpaa.Fl
