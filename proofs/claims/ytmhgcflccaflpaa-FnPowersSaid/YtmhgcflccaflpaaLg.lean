
/-
The logarithm to the base 2.
-/
import Derived.Test.YtmhgcflccaflpaaCb
import Derived.Test.YtmhgcflccaflpaaLo
import Derived.Test.YtmhgcflccaflpaaPw
import Derived.IntWalk
import Derived.Test.YtmhgcflccaflpaaFx
namespace Go.Proofs.Ytmhgcflccaflpaa
open Go Go.RowKit Fl
theorem fop_sub_neg (k : FloatKind) (x y : Nat) : fop .sub k x y = fop .add k x (Op.negFloat k y) := by
  simp only [fop, Ieee.Format.sub, Ieee.Format.add, read_neg]
theorem fix_one : fixF (2 ^ 30) = 4607182418800017408 := by decide +kernel
theorem fix_minus : Op.negFloat .f64 4607182418800017408 = fixF (-(2 ^ 30)) := by decide +kernel
theorem fix_zero : fixF 0 = 0 := by decide +kernel
/-- a fraction squared, and halved where it is 2 or more -/
def sqN (z : Nat) : Nat := fop .mul .f64 z z
def zz (z0 : Nat) : Nat → Nat
  | 0 => z0
  | i + 1 => if 1024 * B52 ≤ sqN (zz z0 i) then sqN (zz z0 i) - B52 else sqN (zz z0 i)
def ss (z0 : Nat) (S0 : Int) : Nat → Int
  | 0 => S0
  | i + 1 => if 1024 * B52 ≤ sqN (zz z0 i) then ss z0 S0 i + 2 ^ (30 - (i + 1)) else ss z0 S0 i
theorem sq_bounds {z : Nat} (h1 : 1023 * B52 ≤ z) (h2 : z < 1024 * B52) : 1023 * B52 ≤ sqN z ∧ sqN z < 1025 * B52 := by
  constructor
  · have h3 : fop .mul .f64 (1023 * B52) (1023 * B52) ≤ sqN z := fmul_mono (by rw [inf64]; have : B52 = 4503599627370496 := rfl; omega) (by rw [inf64]; have : B52 = 4503599627370496 := rfl; omega) h1 h1
    have h4 : fop .mul .f64 (1023 * B52) (1023 * B52) = 1023 * B52 := by decide +kernel
    omega
  · have h3 : sqN z ≤ fop .mul .f64 (1024 * B52 - 1) (1024 * B52 - 1) := fmul_mono (by rw [inf64]; decide) (by rw [inf64]; decide) (by omega) (by omega)
    have h4 : fop .mul .f64 (1024 * B52 - 1) (1024 * B52 - 1) < 1025 * B52 := by decide +kernel
    omega
theorem zz_bounds {z0 : Nat} (h1 : 1023 * B52 ≤ z0) (h2 : z0 < 1024 * B52) : ∀ i, 1023 * B52 ≤ zz z0 i ∧ zz z0 i < 1024 * B52
  | 0 => ⟨h1, h2⟩
  | i + 1 => by
    obtain ⟨h3, h4⟩ := zz_bounds h1 h2 i
    obtain ⟨h5, h6⟩ := sq_bounds h3 h4
    rw [zz]
    split <;> constructor <;> omega
theorem pow_le_30 (i : Nat) : (2 : Int) ^ (30 - i) ≤ 1073741824 ∧ (0 : Int) < 2 ^ (30 - i) := by
  refine ⟨?_, Int.pow_pos (by decide)⟩
  have h := Nat.pow_le_pow_right (show 0 < 2 by omega) (show 30 - i ≤ 30 by omega)
  have h2 : ((2 ^ (30 - i) : Nat) : Int) ≤ ((2 ^ 30 : Nat) : Int) := Int.ofNat_le.2 h
  rw [Int.natCast_pow] at h2
  exact Int.le_trans h2 (by decide)
def M30 : Nat := 1073741824
def A30 : Nat := 214748364800
theorem ss_bounds {z0 : Nat} {S0 : Int} (h : S0.natAbs ≤ A30) : ∀ i, i ≤ 30 → (ss z0 S0 i).natAbs ≤ A30 + i * M30
  | 0, _ => by rw [ss, Nat.zero_mul]; exact h
  | i + 1, hi => by
    have h1 := ss_bounds (z0 := z0) h i (by omega)
    obtain ⟨h2, h3⟩ := pow_le_30 (i + 1)
    have h4 : ((2 : Int) ^ (30 - (i + 1))).natAbs ≤ M30 := by
      generalize (2 : Int) ^ (30 - (i + 1)) = p at *
      unfold M30
      omega
    have h5 : A30 + (i + 1) * M30 = (A30 + i * M30) + M30 := by rw [Nat.succ_mul, Nat.add_assoc]
    rw [ss, h5]
    by_cases hc : 1024 * B52 ≤ sqN (zz z0 i)
    · rw [if_pos hc]
      exact Nat.le_trans (Int.natAbs_add_le _ _) (Nat.add_le_add h1 h4)
    · rw [if_neg hc]
      exact Nat.le_trans h1 (Nat.le_add_right _ _)
/-- the whole part and the fraction of a float64 -/
def ex0 (b : Nat) : Int := ((b / B52 : Nat) : Int) - 1023
def fr0 (b : Nat) : Nat := 1023 * B52 + b % B52
theorem fr0_bounds (b : Nat) : 1023 * B52 ≤ fr0 b ∧ fr0 b < 1024 * B52 := by
  have := Nat.mod_lt b b52_pos
  unfold fr0
  omega
/-- the logarithm of a float64 -/
def logF (b : Nat) : Nat := down (fixF (ss (fr0 b) (ex0 b * 2 ^ 30) 30))
def areaB (x : Nat) : Bool := finB x && FloatKind.f32.format.order x 0 == some .gt
theorem area_range {x : Nat} (hx : x < 4294967296) (h : areaB x = true) : 1 ≤ x ∧ x < 2139095040 := by
  unfold areaB at h
  rw [Bool.and_eq_true] at h
  obtain ⟨h1, h2⟩ := h
  have h3 : FloatKind.f32.format.order x 0 = some .gt := by simpa using h2
  have h4 : x ≠ 0 := by rintro rfl; revert h3; decide
  have h5 : x ≠ 2139095040 := by rintro rfl; revert h1; decide +kernel
  rcases ge_zero (k := .f32) hx (Or.inl h3) with h6 | h6
  · have : FloatKind.f32.format.infRung = 2139095040 := inf32
    omega
  · have : FloatKind.f32.format.signWeight = 2147483648 := by decide
    rw [this] at h6
    subst h6
    revert h3; decide
theorem up_range {x : Nat} (h1 : 1 ≤ x) (h2 : x < 2139095040) : 874 * B52 ≤ up x ∧ up x < 1151 * B52 := by
  have hX1 : 2139095040 = Ieee.single.infRung := by decide
  have u1 : up 1 ≤ up x := up_mono (X := x) (hX1 ▸ h2) h1
  have u2 : up x ≤ up 2139095039 := up_mono (by decide) (by omega)
  have e1 : up 1 = 874 * B52 := by decide +kernel
  have e2 : up 2139095039 < 1151 * B52 := by decide +kernel
  omega
theorem c_isArea (x : Nat) (w : World) : Calls Try.prog 31 #[.float .f32 x] w (RetB (areaB x) w) := by
  unfold areaB
  cases h : finB x
  all_goals
    go_enter Try.func31, Try.ntmps31
    go_wp2_with (go_at_call 48; refine (c_isFinite _ _).mono ?_; rintro e w' ⟨rfl, n1, rfl⟩)
    go_ret
    exact ⟨by first | rfl | simp, same1 _ _⟩
/-! ### positive float64s -/
structure PF (b : Nat) : Prop where
  n : isNaN .f64 b = false
  a : ab .f64 b = b
  v : ∀ t, nv .f64 b t = b
  z : (FloatKind.f64.format.order b 0 == some .eq) = false
  s : (FloatKind.f64.format.order b 4503599627370496 == some .lt) = false
  i : (FloatKind.f64.format.order b 9218868437227405311 == some .gt) = false
  q : (FloatKind.f64.format.order b b != some .eq) = false
theorem pf {b : Nat} (h1 : B52 ≤ b) (h2 : b < INF) : PF b := by
  have hI : b < FloatKind.f64.format.infRung := by rw [inf64]; exact h2
  have hB : B52 = 4503599627370496 := rfl
  have hN : INF = 9218868437227405312 := rfl
  have hn : isNaN .f64 b = false := isNaN_pos (k := .f64) (Nat.le_of_lt hI)
  have o : ∀ c, c < FloatKind.f64.format.infRung → FloatKind.f64.format.order b c = some (compare b c) := fun c hc => order_pos _ hI hc
  refine ⟨hn, ?_, fun t => nv_of t hn, ?_, ?_, ?_, ?_⟩
  · unfold ab
    rw [hn]
    have : FloatKind.f64.format.signWeight = 9223372036854775808 := by decide
    rw [this]
    exact Nat.mod_eq_of_lt (by omega)
  · rw [o 0 (by rw [inf64]; omega), show compare b 0 = .gt from Nat.compare_eq_gt.2 (by omega)]; rfl
  · rw [o _ (by rw [inf64]; omega)]
    rcases Nat.lt_or_ge 4503599627370496 b with h | h
    · rw [show compare b 4503599627370496 = .gt from Nat.compare_eq_gt.2 h]; rfl
    · rw [show b = 4503599627370496 by omega]; rfl
  · rw [o _ (by rw [inf64]; omega)]
    rcases Nat.lt_or_ge b 9218868437227405311 with h | h
    · rw [show compare b 9218868437227405311 = .lt from Nat.compare_eq_lt.2 h]; rfl
    · rw [show b = 9218868437227405311 by omega]; rfl
  · rw [o _ hI, show compare b b = .eq from Nat.compare_eq_eq.2 rfl]; rfl
theorem c_IsInf_pos (b : Nat) (h : PF b) (w : World) : Calls Try.prog 57 #[.float .f64 b, .int .i64 0] w (RetB false w) := by
  obtain ⟨hn, ha, hv, hz, hs, hi, hq⟩ := h
  go_enter Try.func57, Try.ntmps57
  go_wp2_with (go_at_call 40; refine (c_Abs _ _).mono ?_; rintro e w' ⟨t1, n1, rfl, rfl⟩)
  go_ret
  exact ⟨rfl, same1 _ _⟩
theorem c_IsNaN_pos (b : Nat) (h : PF b) (w : World) : Calls Try.prog 56 #[.float .f64 b] w (RetB false w) := by
  obtain ⟨hn, ha, hv, hz, hs, hi, hq⟩ := h
  go_enter Try.func56, Try.ntmps56
  go_wp2
  go_ret
  exact ⟨rfl, same0 _⟩
theorem c_normalize_pos (b : Nat) (h : PF b) (w : World) : Calls Try.prog 59 #[.float .f64 b] w (fun e w' => e = .returned (.tuple #[.float .f64 b, .int .i64 0]) ∧ ∃ n, w' = w.drewN n) := by
  obtain ⟨hn, ha, hv, hz, hs, hi, hq⟩ := h
  go_enter Try.func59, Try.ntmps59
  go_wp2_with (go_at_call 40; refine (c_Abs _ _).mono ?_; rintro e w' ⟨t1, n1, rfl, rfl⟩)
  go_ret2
  exact ⟨rfl, same1 _ _⟩
/-! ### the bits of a float64 -/
theorem u64_wrap_nat {n : Nat} (h : n < 18446744073709551616) : IntKind.u64.wrap (n : Int) = n := IntWalk.u64_in _ (by omega)
theorem bits_frac {b : Nat} (h : b < 9223372036854775808) : bits .andNot .u64 (b : Int) 9218868437227405312 = ((b % B52 : Nat) : Int) := by
  have h0 : (BitVec.ofInt 64 (b : Int) &&& ~~~ (BitVec.ofInt 64 9218868437227405312)).toNat = b % B52 := by
    have e : ~~~ (BitVec.ofInt 64 9218868437227405312) = BitVec.ofNat 64 (2 ^ 63 + (2 ^ 52 - 1)) := by decide
    rw [e, BitVec.toNat_and, BitVec.ofInt_natCast]
    simp only [BitVec.toNat_ofNat]
    rw [Nat.mod_eq_of_lt (a := b) (by omega), Nat.mod_eq_of_lt (a := 2 ^ 63 + (2 ^ 52 - 1)) (by decide)]
    have e2 : b &&& (2 ^ 63 + (2 ^ 52 - 1)) = b &&& (2 ^ 52 - 1) := by
      apply Nat.eq_of_testBit_eq
      intro i
      rw [Nat.testBit_and, Nat.testBit_and]
      by_cases hi : i < 63
      · congr 1
        rw [Nat.testBit_two_pow_add_gt hi]
      · have : b.testBit i = false := Nat.testBit_lt_two_pow (Nat.lt_of_lt_of_le (show b < 2 ^ 63 by omega) (Nat.pow_le_pow_right (by omega) (by omega)))
        rw [this]; rfl
    rw [e2, Nat.and_two_pow_sub_one_eq_mod]
    rfl
  show IntKind.u64.wrap ((BitVec.ofInt 64 (b : Int) &&& ~~~ (BitVec.ofInt 64 9218868437227405312)).toNat : Int) = _
  rw [h0]
  exact u64_wrap_nat (by have := Nat.mod_lt b b52_pos; have : B52 = 4503599627370496 := rfl; omega)
theorem bits_or52 {f e : Nat} (h : f < B52) (he : e < 2048) : bits .or .u64 (f : Int) ((e * 4503599627370496 : Nat) : Int) = ((e * B52 + f : Nat) : Int) := by
  have hB : B52 = 4503599627370496 := rfl
  have h0 : (BitVec.ofInt 64 (f : Int) ||| BitVec.ofInt 64 ((e * 4503599627370496 : Nat) : Int)).toNat = e * B52 + f := by
    rw [BitVec.toNat_or, BitVec.ofInt_natCast, BitVec.ofInt_natCast]
    simp only [BitVec.toNat_ofNat]
    rw [Nat.mod_eq_of_lt (a := f) (by omega), Nat.mod_eq_of_lt (a := e * 4503599627370496) (by omega), Nat.or_comm, Nat.mul_comm e, hB, Nat.mul_comm e]
    exact (Nat.two_pow_add_eq_or_of_lt (i := 52) (by omega) e).symm
  show IntKind.u64.wrap ((BitVec.ofInt 64 (f : Int) ||| BitVec.ofInt 64 ((e * 4503599627370496 : Nat) : Int)).toNat : Int) = _
  rw [h0]
  exact u64_wrap_nat (by omega)
theorem and_2047 {e : Nat} (h : e < 2048) : e &&& 2047 = e := by
  rw [show 2047 = 2 ^ 11 - 1 by rfl, Nat.and_two_pow_sub_one_eq_mod, Nat.mod_eq_of_lt h]
theorem bits_and_u {e : Nat} (h : e < 2048) : bits .and .u64 (e : Int) 2047 = (e : Int) := by
  have h0 : (BitVec.ofInt 64 (e : Int) &&& BitVec.ofInt 64 2047).toNat = e := by
    have e2 : BitVec.ofInt 64 2047 = BitVec.ofNat 64 2047 := by decide
    rw [e2, BitVec.toNat_and, BitVec.ofInt_natCast]
    simp only [BitVec.toNat_ofNat]
    rw [Nat.mod_eq_of_lt (a := e) (by omega)]
    exact and_2047 h
  show IntKind.u64.wrap ((BitVec.ofInt 64 (e : Int) &&& BitVec.ofInt 64 2047).toNat : Int) = _
  rw [h0]
  exact u64_wrap_nat (by omega)
theorem bits_and_i {e : Nat} (h : e < 2048) : bits .and .i64 (e : Int) 2047 = (e : Int) := by
  have h0 : (BitVec.ofInt 64 (e : Int) &&& BitVec.ofInt 64 2047).toNat = e := by
    have e2 : BitVec.ofInt 64 2047 = BitVec.ofNat 64 2047 := by decide
    rw [e2, BitVec.toNat_and, BitVec.ofInt_natCast]
    simp only [BitVec.toNat_ofNat]
    rw [Nat.mod_eq_of_lt (a := e) (by omega)]
    exact and_2047 h
  show IntKind.i64.wrap ((BitVec.ofInt 64 (e : Int) &&& BitVec.ofInt 64 2047).toNat : Int) = _
  rw [h0]
  exact IntWalk.i64_in _ (by omega)
theorem quo52 (b : Nat) : (b : Int) / 4503599627370496 = ((b / B52 : Nat) : Int) := rfl
theorem c_frexp (b : Nat) (h1 : B52 ≤ b) (h2 : b < INF) (w : World) : Calls Try.prog 50 #[.float .f64 b] w (fun e w' => e = .returned (.tuple #[.float .f64 (1022 * B52 + b % B52), .int .i64 (((b / B52 : Nat) : Int) - 1022)]) ∧ ∃ n, w' = w.drewN n) := by
  have hp := Lib.hid (pf h1 h2)
  have hz := (pf h1 h2).z
  have hv := (pf h1 h2).v
  have he : b / B52 < 2048 := Nat.div_lt_of_lt_mul (Nat.lt_trans h2 (by decide))
  have hf := Nat.mod_lt b b52_pos
  have g1 := quo52 b
  have g2 := bits_and_u he
  have g3 := bits_frac (b := b) (Nat.lt_trans h2 (by decide))
  have g4 := bits_or52 (f := b % B52) (e := 1022) hf (by omega)
  rw [show ((1022 * 4503599627370496 : Nat) : Int) = 4602678819172646912 by decide] at g4
  have g5 : IntKind.i64.wrap ((b / B52 : Nat) : Int) = ((b / B52 : Nat) : Int) := IntWalk.i64_in _ (by omega)
  have g6 : IntKind.i64.wrap (((b / B52 : Nat) : Int) - 1023) = ((b / B52 : Nat) : Int) - 1023 := IntWalk.i64_in _ (by omega)
  have g7 : IntKind.i64.wrap (((b / B52 : Nat) : Int) - 1023 + 1) = ((b / B52 : Nat) : Int) - 1022 := by rw [IntWalk.i64_in _ (by omega)]; omega
  have g8 : IntKind.i64.wrap (((b / B52 : Nat) : Int) - 1022) = ((b / B52 : Nat) : Int) - 1022 := IntWalk.i64_in _ (by omega)
  generalize b % B52 = f at *
  generalize b / B52 = E at *
  generalize hR : 1022 * B52 + f = R at *
  clear h1 h2 hf he hR
  go_enter Try.func50, Try.ntmps50
  go_wp2_with (first | (go_at_call 57; refine (c_IsInf_pos b hp.out _).mono ?_; rintro e w' ⟨rfl, n1, rfl⟩) | (go_at_call 56; refine (c_IsNaN_pos b hp.out _).mono ?_; rintro e w' ⟨rfl, n1, rfl⟩) | (go_at_call 59; refine (c_normalize_pos b hp.out _).mono ?_; rintro e w' ⟨rfl, n1, rfl⟩))
  go_ret2
  exact ⟨rfl, same1 _ _⟩
/-! ### the reference -/
theorem ord {a b : Nat} (ha : a < INF) (hb : b < INF) : FloatKind.f64.format.order a b = some (compare a b) := order_pos _ (by rw [inf64]; exact ha) (by rw [inf64]; exact hb)
theorem ge_yes {a b : Nat} (ha : a < INF) (hb : b < INF) (h : b ≤ a) : (FloatKind.f64.format.order a b == some .gt || FloatKind.f64.format.order a b == some .eq) = true := by
  rw [ord ha hb]
  rcases Nat.lt_or_ge b a with h1 | h1
  · rw [Nat.compare_eq_gt.2 h1]; rfl
  · rw [Nat.compare_eq_eq.2 (by omega)]; rfl
theorem ge_no {a b : Nat} (ha : a < INF) (hb : b < INF) (h : a < b) : (FloatKind.f64.format.order a b == some .gt || FloatKind.f64.format.order a b == some .eq) = false := by
  rw [ord ha hb, Nat.compare_eq_lt.2 h]; rfl
theorem lt_yes {a b : Nat} (ha : a < INF) (hb : b < INF) (h : a < b) : (FloatKind.f64.format.order a b == some .lt) = true := by
  rw [ord ha hb, Nat.compare_eq_lt.2 h]; rfl
theorem lt_no {a b : Nat} (ha : a < INF) (hb : b < INF) (h : b ≤ a) : (FloatKind.f64.format.order a b == some .lt) = false := by
  rw [ord ha hb]
  rcases Nat.lt_or_ge b a with h1 | h1
  · rw [Nat.compare_eq_gt.2 h1]; rfl
  · rw [Nat.compare_eq_eq.2 (by omega)]; rfl
theorem two_bits : (4611686018427387904 : Nat) = 1024 * B52 := by decide
theorem one_bits : (4607182418800017408 : Nat) = 1023 * B52 := by decide
theorem b52_val : B52 = 4503599627370496 := rfl
theorem inf_val : INF = 9218868437227405312 := rfl
theorem nan_free {b : Nat} (h : b < INF) : isNaN .f64 b = false := isNaN_pos (k := .f64) (by rw [inf64]; exact Nat.le_of_lt h)
/-- what the reference's first loops do: j steps down or up -/
structure St (b0 b : Nat) (S : Int) : Prop where
  r : B52 ≤ b ∧ b < INF
  f : b % B52 = b0 % B52
  e : S = (ex0 b0 - ex0 b) * 2 ^ 30
  s : S.natAbs ≤ 214748364800
theorem ex0_bounds {b : Nat} (h1 : 874 * B52 ≤ b) (h2 : b < 1151 * B52) : -149 ≤ ex0 b ∧ ex0 b ≤ 127 := by
  have h3 : 874 ≤ b / B52 := (Nat.le_div_iff_mul_le b52_pos).2 h1
  have h4 : b / B52 < 1151 := Nat.div_lt_of_lt_mul (by rw [Nat.mul_comm]; exact h2)
  unfold ex0
  omega
theorem ex0_ge {b : Nat} (h : 1024 * B52 ≤ b) : 1 ≤ ex0 b := by
  have h3 : 1024 ≤ b / B52 := (Nat.le_div_iff_mul_le b52_pos).2 h
  unfold ex0; omega
theorem ex0_lt {b : Nat} (h : b < 1023 * B52) : ex0 b ≤ -1 := by
  have h4 : b / B52 < 1023 := Nat.div_lt_of_lt_mul (by rw [Nat.mul_comm]; exact h)
  unfold ex0; omega
theorem ex0_mid {b : Nat} (h1 : 1023 * B52 ≤ b) (h2 : b < 1024 * B52) : ex0 b = 0 := by
  have h3 : 1023 ≤ b / B52 := (Nat.le_div_iff_mul_le b52_pos).2 h1
  have h4 : b / B52 < 1024 := Nat.div_lt_of_lt_mul (by rw [Nat.mul_comm]; exact h2)
  unfold ex0; omega
theorem ex0_add (b : Nat) : ex0 (b + B52) = ex0 b + 1 ∧ (b + B52) % B52 = b % B52 := by
  refine ⟨by unfold ex0; rw [Nat.add_div_right _ b52_pos]; omega, Nat.add_mod_right _ _⟩
theorem ex0_sub {b : Nat} (h : B52 ≤ b) : ex0 (b - B52) = ex0 b - 1 ∧ (b - B52) % B52 = b % B52 := by
  obtain ⟨h1, h2⟩ := ex0_add (b - B52)
  rw [Nat.sub_add_cancel h] at h1 h2
  exact ⟨by omega, h2.symm⟩
theorem fix_step {S T : Int} (hS : S.natAbs ≤ 10 * A30) (hT : T.natAbs ≤ 10 * A30) : fop .add .f64 (fixF S) (fixF T) = fixF (S + T) :=
  fix_add (Nat.lt_of_le_of_lt hS (by decide)) (Nat.lt_of_le_of_lt hT (by decide))
theorem St.down {b0 b : Nat} {S : Int} (h : St b0 b S) (h0 : ex0 b0 ≤ 127) (hb : 1024 * B52 ≤ b) :
    fop .quo .f64 b 4611686018427387904 = b - B52 ∧ fop .add .f64 (fixF S) 4607182418800017408 = fixF (S + 1073741824) ∧ St b0 (b - B52) (S + 1073741824) := by
  have e1 := ex0_ge hb
  have hB := b52_val
  obtain ⟨q1, q2⟩ := ex0_sub (b := b) (by omega)
  have hS : S + 1073741824 = (ex0 b0 - ex0 (b - B52)) * 2 ^ 30 := by rw [h.e, q1]; omega
  have hS2 : (S + 1073741824).natAbs ≤ 214748364800 := by
    rw [hS, q1]
    have := h.e
    have := h.s
    omega
  refine ⟨half (by omega) h.r.2, ?_, ⟨by omega, by have := h.r.2; omega⟩, q2.trans h.f, hS, hS2⟩
  have := fix_step (S := S) (T := 1073741824) (Nat.le_trans h.s (by decide)) (by decide)
  rw [← this]
  congr 1
theorem St.up {b0 b : Nat} {S : Int} (h : St b0 b S) (h0 : -149 ≤ ex0 b0) (hb : b < 1023 * B52) :
    fop .mul .f64 b 4611686018427387904 = b + B52 ∧ fop .sub .f64 (fixF S) 4607182418800017408 = fixF (S - 1073741824) ∧ St b0 (b + B52) (S - 1073741824) := by
  have e1 := ex0_lt hb
  have hB := b52_val
  have hI := inf_val
  obtain ⟨q1, q2⟩ := ex0_add b
  have hS : S - 1073741824 = (ex0 b0 - ex0 (b + B52)) * 2 ^ 30 := by rw [h.e, q1]; omega
  have hS2 : (S - 1073741824).natAbs ≤ 214748364800 := by
    rw [hS, q1]
    have := h.e
    have := h.s
    omega
  refine ⟨twice h.r.1 (by omega), ?_, ⟨by omega, by omega⟩, q2.trans h.f, hS, hS2⟩
  rw [fop_sub_neg, fix_minus, show -(2 ^ 30) = (-1073741824 : Int) by decide]
  have := fix_step (S := S) (T := -1073741824) (Nat.le_trans h.s (by decide)) (by decide)
  rw [this]
  rfl
end Go.Proofs.Ytmhgcflccaflpaa
