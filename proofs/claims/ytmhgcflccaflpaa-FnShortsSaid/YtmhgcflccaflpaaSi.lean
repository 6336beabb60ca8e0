
/-
Samples as short integers: what the law asks.
-/
import Derived.Test.YtmhgcflccaflpaaSj
import Derived.Test.YtmhgcflccaflpaaSk
import Derived.Test.YtmhgcflccaflpaaCb
namespace Go.Proofs.Ytmhgcflccaflpaa.Fl
open Ieee Go Go.RowKit
set_option exponentiation.threshold 2000
theorem okf_end : okf 32768 = true := by decide +kernel
theorem fsh_pos {m : Nat} (h : m ≤ 32768) : fsh (m : Int) < 2139095040 ∧ v Ieee.single (fsh (m : Int)) = m * 2 ^ 134 := by
  have k : okf m = true := by
    by_cases e : m = 32768
    · rw [e]; exact okf_end
    · rcases Nat.lt_or_ge m 8192 with h1 | h1
      · exact all2_spec okf 13 0 tabf0 m (by omega) (by omega)
      rcases Nat.lt_or_ge m 16384 with h2 | h2
      · exact all2_spec okf 13 8192 tabf1 m (by omega) (by omega)
      rcases Nat.lt_or_ge m 24576 with h3 | h3
      · exact all2_spec okf 13 16384 tabf2 m (by omega) (by omega)
      · exact all2_spec okf 13 24576 tabf3 m (by omega) (by omega)
  unfold okf at k
  rw [Bool.and_eq_true, decide_eq_true_eq, beq_iff_eq] at k
  exact k
theorem nat_neg_f (k : FloatKind) {m : Nat} (h : 0 < m) : floatOfInt k (-(m : Int)) = sg k (floatOfInt k (m : Int)) := by
  unfold floatOfInt FloatKind.nearest FloatKind.encode
  rw [decide_eq_true (show -(m : Int) < 0 by omega), decide_eq_false (show ¬ (m : Int) < 0 by omega), Int.natAbs_neg]
  show k.format.nearest true _ 0 = sg k (k.format.nearest false _ 0)
  rw [nearest_sg]; rfl
theorem quo_sg (k : FloatKind) {a c : Nat} (ha : a < k.format.infRung) (hc : c < k.format.infRung) (h0 : mg k.format c ≠ 0) : fop .quo k (sg k a) c = sg k (fop .quo k a c) := by
  simp only [fop, Format.div]
  rw [read_sgn k ha, read_pos k.format ha, read_pos k.format hc]
  simp only [Datum.quotient, if_neg h0, Bool.true_xor, Bool.false_xor, Bool.not_false, Option.map_some, Option.getD_some]
  show k.format.nearest true _ _ = sg k (k.format.nearest false _ _)
  rw [nearest_sg]; rfl
theorem sg1 : sg .f32 1065353216 = 3212836864 := by decide
theorem e32 : FloatKind.f32.format.infRung = 2139095040 := by decide
theorem fi32 {m : Nat} (h : m ≤ 32768) : floatOfInt .f32 (m : Int) < 2139095040 := by
  have h1 : floatOfInt .f32 (m : Int) ≤ floatOfInt .f32 ((32768 : Nat) : Int) := floatOfInt_mono (by omega) (by omega)
  have h2 : floatOfInt .f32 ((32768 : Nat) : Int) < 2139095040 := by decide +kernel
  omega
theorem fsh_neg {m : Nat} (h0 : 0 < m) (h : m ≤ 32768) : fsh (-(m : Int)) = sg .f32 (fsh (m : Int)) := by
  unfold fsh
  rw [nat_neg_f .f32 h0, quo_sg .f32 (by rw [e32]; exact fi32 h) (by decide) (by decide +kernel)]
theorem isNaN_sg {a : Nat} (ha : a < 2139095040) : isNaN .f32 (sg .f32 a) = false := by
  unfold isNaN
  rw [read_sgn .f32 (by rw [e32]; exact ha)]; rfl
theorem word_cases {a : Nat} (h : a < 4294967296) : isNaN .f32 a = true ∨ (isNaN .f32 a = false ∧ (a < 2139095040 ∨ a = 2139095040 ∨ (∃ b, b < 2139095040 ∧ a = sg .f32 b) ∨ a = 4286578688)) := by
  cases hn : isNaN .f32 a
  · refine .inr ⟨rfl, ?_⟩
    have hm : a % 2147483648 ≤ 2139095040 := by
      refine Nat.not_lt.1 fun hlt => ?_
      have := read_nan32 a hlt
      unfold isNaN at hn
      rw [show FloatKind.f32.format.read a = Ieee.single.read a from rfl, this] at hn
      cases hn
    by_cases hs : a < 2147483648
    · rw [Nat.mod_eq_of_lt hs] at hm
      omega
    · by_cases hi : a = 4286578688
      · omega
      · exact .inr (.inr (.inl ⟨a - 2147483648, by omega, by unfold sg; rw [show FloatKind.f32.format.signWeight = 2147483648 by decide]; omega⟩))
  · exact .inl rfl
theorem order_np2 {a c : Nat} (ha : a < 2139095040) (hc : c < 2139095040) (h0 : c ≠ 0) : FloatKind.f32.format.order (sg .f32 a) c = some .lt := by
  unfold Format.order
  rw [read_sgn .f32 (by rw [e32]; exact ha), read_pos FloatKind.f32.format (x := c) (by rw [e32]; exact hc)]
  have hm : 0 < v Ieee.single c := v_pos _ h0
  have hm2 : mg Ieee.single c ≠ 0 := by intro h; unfold v at hm; rw [h] at hm; simp at hm
  simp only [Datum.order, signed, if_true, Bool.false_eq_true, if_false]
  have h2 : 0 < mg FloatKind.f32.format c <<< (pl FloatKind.f32.format c - min (pl FloatKind.f32.format a) (pl FloatKind.f32.format c)).toNat := by
    rw [Nat.shiftLeft_eq]
    exact Nat.mul_pos (Nat.pos_of_ne_zero hm2) (Nat.two_pow_pos _)
  generalize mg FloatKind.f32.format a <<< (pl FloatKind.f32.format a - min (pl FloatKind.f32.format a) (pl FloatKind.f32.format c)).toNat = A
  generalize mg FloatKind.f32.format c <<< (pl FloatKind.f32.format c - min (pl FloatKind.f32.format a) (pl FloatKind.f32.format c)).toNat = B at *
  rw [Int.compare_eq_lt.2 (by omega)]
theorem order_pn2 {a c : Nat} (ha : a < 2139095040) (hc : c < 2139095040) (h0 : c ≠ 0) : FloatKind.f32.format.order a (sg .f32 c) = some .gt := by
  unfold Format.order
  rw [read_sgn .f32 (by rw [e32]; exact hc), read_pos FloatKind.f32.format (x := a) (by rw [e32]; exact ha)]
  have hm : 0 < v Ieee.single c := v_pos _ h0
  have hm2 : mg Ieee.single c ≠ 0 := by intro h; unfold v at hm; rw [h] at hm; simp at hm
  simp only [Datum.order, signed, if_true, Bool.false_eq_true, if_false]
  have h2 : 0 < mg FloatKind.f32.format c <<< (pl FloatKind.f32.format c - min (pl FloatKind.f32.format a) (pl FloatKind.f32.format c)).toNat := by
    rw [Nat.shiftLeft_eq]
    exact Nat.mul_pos (Nat.pos_of_ne_zero hm2) (Nat.two_pow_pos _)
  generalize mg FloatKind.f32.format a <<< (pl FloatKind.f32.format a - min (pl FloatKind.f32.format a) (pl FloatKind.f32.format c)).toNat = A
  generalize mg FloatKind.f32.format c <<< (pl FloatKind.f32.format c - min (pl FloatKind.f32.format a) (pl FloatKind.f32.format c)).toNat = B at *
  rw [Int.compare_eq_gt.2 (by omega)]
/-- the short integer of a sample -/
def shortOf (a : Nat) : Int :=
  if isNaN .f32 a then 0 else if a < 2147483648 then (if 32768 ≤ mh a then 32767 else (mh a : Int)) else (if 32768 < mh (a - 2147483648) then -32768 else -(mh (a - 2147483648) : Int))
theorem short_pos {a : Nat} (ha : a < 2139095040) : shortOf a = if 32768 ≤ mh a then 32767 else (mh a : Int) := by
  unfold shortOf
  rw [isNaN_pos (k := .f32) (by rw [e32]; omega), if_neg (by decide), if_pos (by omega)]
theorem short_neg {a : Nat} (ha : a < 2139095040) : shortOf (sg .f32 a) = if 32768 < mh a then -32768 else -(mh a : Int) := by
  have e : sg .f32 a = 2147483648 + a := by unfold sg; rw [show FloatKind.f32.format.signWeight = 2147483648 by decide]
  unfold shortOf
  rw [isNaN_sg ha, if_neg (by decide), e, if_neg (by omega), Nat.add_sub_cancel_left]
theorem mh_fsh {m : Nat} (h : m ≤ 32768) : mh (fsh (m : Int)) = m := by
  unfold mh
  rw [(fsh_pos h).2]
  exact rhe_exact _ _ (Nat.two_pow_pos _)
theorem int_cases (n : Int) : (∃ m : Nat, n = m) ∨ ∃ m : Nat, 0 < m ∧ n = -(m : Int) := by
  rcases Int.le_total 0 n with h | h
  · exact .inl ⟨n.toNat, by omega⟩
  · rcases Int.lt_or_eq_of_le h with h | h
    · exact .inr ⟨(-n).toNat, by omega, by omega⟩
    · exact .inl ⟨0, by omega⟩
theorem short_fsh (n : Int) (h1 : -32768 ≤ n) (h2 : n ≤ 32767) : shortOf (fsh n) = n := by
  rcases int_cases n with ⟨m, rfl⟩ | ⟨m, h0, rfl⟩
  · rw [short_pos (fsh_pos (by omega)).1, mh_fsh (by omega), if_neg (by omega)]
  · rw [fsh_neg h0 (by omega), short_neg (fsh_pos (by omega)).1, mh_fsh (by omega), if_neg (by omega)]
theorem v_one32 : v Ieee.single 1065353216 = 32768 * 2 ^ 134 := by decide +kernel
theorem fsh_range (n : Int) (h1 : -32768 ≤ n) (h2 : n ≤ 32767) : (FloatKind.f32.format.order (fsh n) 3212836864 == some .lt) = false ∧ (FloatKind.f32.format.order (fsh n) 1065353216 == some .gt || FloatKind.f32.format.order (fsh n) 1065353216 == some .eq) = false := by
  rcases int_cases n with ⟨m, rfl⟩ | ⟨m, h0, rfl⟩
  · obtain ⟨f1, f2⟩ := fsh_pos (m := m) (by omega)
    rw [← sg1, order_pn2 f1 (by decide) (by decide), ord32 f1 (by decide)]
    have : fsh (m : Int) < 1065353216 := by
      refine Nat.not_le.1 fun hle => ?_
      have := v_le Ieee.single hle
      rw [v_one32, f2] at this
      have := Nat.le_of_mul_le_mul_right this (Nat.two_pow_pos _)
      omega
    rw [Nat.compare_eq_lt.2 this]
    exact ⟨by decide, by decide⟩
  · obtain ⟨f1, f2⟩ := fsh_pos (m := m) (by omega)
    rw [fsh_neg h0 (by omega), order_np2 (c := 1065353216) f1 (by decide) (by decide), ← sg1, order_sg .f32 (by rw [e32]; exact f1) (by decide), ord32 (by decide) f1]
    have : fsh (m : Int) ≤ 1065353216 := by
      refine le_of_v Ieee.single ?_
      rw [v_one32, f2]
      exact Nat.mul_le_mul_right _ (by omega)
    refine ⟨?_, by decide⟩
    rw [beq_eq_false_iff_ne]
    intro h
    have := Nat.compare_eq_lt.1 (Option.some.inj h)
    omega
theorem mh_one : mh 1065353216 = 32768 := by decide +kernel
theorem mh_9999 : mh 1065351538 ≤ 32767 := by decide +kernel
theorem pow134 : (2 : Nat) ^ 134 = 2 * 2 ^ 133 := by rw [← Nat.pow_succ']
/-- a sample lies near that of its short integer -/
theorem near {a : Nat} (ha : a < 4294967296) (h1 : (FloatKind.f32.format.order a 3212836864 == some .gt || FloatKind.f32.format.order a 3212836864 == some .eq) = true) (h2 : (FloatKind.f32.format.order a 1065351538 == some .lt) = true) :
    (FloatKind.f32.format.order (fop .sub .f32 (fsh (shortOf a)) a) 933741996 == some .gt) = false ∧ (FloatKind.f32.format.order (fop .sub .f32 (fsh (shortOf a)) a) (sg .f32 933741996) == some .lt) = false := by
  rcases word_cases ha with hn | ⟨_, hp | rfl | ⟨b, hb, rfl⟩ | rfl⟩
  · rw [order_nan_left _ hn] at h2; cases h2
  · rw [ord32 hp (by decide), beq_iff_eq] at h2
    have hlt := Nat.compare_eq_lt.1 (Option.some.inj h2)
    have hm := mh_mono (show a ≤ 1065351538 by omega)
    have := mh_9999
    obtain ⟨f1, f2⟩ := fsh_pos (m := mh a) (by omega)
    obtain ⟨e1, e2⟩ := mh_err a
    rw [short_pos hp, if_neg (by omega)]
    rw [pow134] at e1 e2 f2
    obtain ⟨D, hD, hd⟩ := sub_near f1 hp (by rw [f2]; omega) (by rw [f2]; omega)
    exact near_small hD hd
  · exact absurd h2 (by decide)
  · rw [← sg1, order_sg .f32 (by rw [e32]; exact hb) (by decide), ord32 (by decide) hb] at h1
    simp only [Bool.or_eq_true, beq_iff_eq] at h1
    have hle : b ≤ 1065353216 := by
      rcases h1 with h | h
      · have := Nat.compare_eq_gt.1 (Option.some.inj h); omega
      · have := Nat.compare_eq_eq.1 (Option.some.inj h); omega
    have hm := mh_mono hle
    rw [mh_one] at hm
    obtain ⟨e1, e2⟩ := mh_err b
    rw [short_neg hb, if_neg (by omega)]
    by_cases h0 : mh b = 0
    · rw [h0]
      rw [h0, pow134] at e2
      have z : fop .sub .f32 (fsh (-((0 : Nat) : Int))) (sg .f32 b) = b := by
        rw [show fsh (-((0 : Nat) : Int)) = 0 by decide +kernel]
        have q : fop .sub .f32 0 (sg .f32 b) = fop .add .f32 0 b := by
          simp only [fop, Format.sub, Format.add]
          rw [read_sg .f32 (by rw [e32]; exact hb), opp_opp]
        rw [q]
        simp only [fop]
        rw [show FloatKind.f32.format = Ieee.single from rfl, add_pos Ieee.single (by decide) (by rw [inf32]; exact hb), show v Ieee.single 0 = 0 by decide, Nat.zero_add, rung_v, inf32]
        show min b 2139095040 = b
        omega
      rw [z]
      refine near_small (D := b) (le_of_v Ieee.single ?_) (.inl rfl)
      rw [v_16]
      omega
    · obtain ⟨f1, f2⟩ := fsh_pos (m := mh b) (by omega)
      rw [fsh_neg (by omega) (by omega), sub_sg .f32 (by rw [e32]; exact f1) (by rw [e32]; exact hb)]
      rw [pow134] at e1 e2 f2
      obtain ⟨D, hD, hd⟩ := sub_near hb f1 (by rw [f2]; omega) (by rw [f2]; omega)
      exact near_small hD hd
  · exact absurd h1 (by decide)
theorem clamp_hi {a : Nat} (ha : a < 4294967296) (h : (FloatKind.f32.format.order a 1065353216 == some .gt || FloatKind.f32.format.order a 1065353216 == some .eq) = true) : shortOf a = 32767 := by
  rcases word_cases ha with hn | ⟨_, hp | rfl | ⟨b, hb, rfl⟩ | rfl⟩
  · rw [order_nan_left _ hn] at h; cases h
  · rw [ord32 hp (by decide)] at h
    simp only [Bool.or_eq_true, beq_iff_eq] at h
    have hle : 1065353216 ≤ a := by
      rcases h with h | h
      · have := Nat.compare_eq_gt.1 (Option.some.inj h); omega
      · have := Nat.compare_eq_eq.1 (Option.some.inj h); omega
    have hm := mh_mono hle
    rw [mh_one] at hm
    rw [short_pos hp, if_pos hm]
  · decide +kernel
  · rw [order_np2 hb (by decide) (by decide)] at h; cases h
  · exact absurd h (by decide)
theorem clamp_lo {a : Nat} (ha : a < 4294967296) (h : (FloatKind.f32.format.order a 3212836864 == some .lt || FloatKind.f32.format.order a 3212836864 == some .eq) = true) : shortOf a = -32768 := by
  rcases word_cases ha with hn | ⟨_, hp | rfl | ⟨b, hb, rfl⟩ | rfl⟩
  · rw [order_nan_left _ hn] at h; cases h
  · rw [← sg1, order_pn2 hp (by decide) (by decide)] at h; cases h
  · exact absurd h (by decide)
  · rw [← sg1, order_sg .f32 (by rw [e32]; exact hb) (by decide), ord32 (by decide) hb] at h
    simp only [Bool.or_eq_true, beq_iff_eq] at h
    have hle : 1065353216 ≤ b := by
      rcases h with h | h
      · have := Nat.compare_eq_lt.1 (Option.some.inj h); omega
      · have := Nat.compare_eq_eq.1 (Option.some.inj h); omega
    have hm := mh_mono hle
    rw [mh_one] at hm
    rw [short_neg hb]
    split
    · rfl
    · omega
  · decide +kernel
theorem toInt_k (K : IntKind) {m : Nat} (hm : m < 2 ^ 53) (h : (m : Int) ≤ K.max) (h' : K.min ≤ 0) : floatToIntVal .f64 (floatOfInt .f64 m) K = some (m : Int) := by
  obtain ⟨j, hj⟩ := read_int hm
  unfold floatToIntVal
  rw [show FloatKind.f64.decode (floatOfInt .f64 m) = Ieee.double.read (floatOfInt .f64 m) from rfl, hj]
  have hi : (Datum.number false (m * 2 ^ j) (-(j : Int))).toInt .zero = some (m : Int) := by
    simp only [Datum.toInt, Datum.integral]
    have a1 : (-(j : Int)).toNat = 0 := by omega
    have a2 : (- -(j : Int)).toNat = j := by omega
    rw [a1, a2]
    have hc : Toward.zero.cut false ((m * 2 ^ j) <<< 0) j = m := by
      have : Toward.zero.cut false ((m * 2 ^ j) <<< 0) j = Toward.down.cut false ((m * 2 ^ j) <<< 0) j := rfl
      rw [this, cut_down, Nat.shiftLeft_eq, Nat.pow_zero, Nat.mul_one, Nat.mul_div_cancel _ (Nat.two_pow_pos _)]
    rw [hc]
    simp [signed]
  simp only [hi]
  rw [if_pos]
  omega
theorem toInt_negk (K : IntKind) {m : Nat} (hm : m < 2 ^ 53) (h : K.min ≤ -(m : Int)) (h' : 0 ≤ K.max) : floatToIntVal .f64 (sg .f64 (floatOfInt .f64 m)) K = some (-(m : Int)) := by
  obtain ⟨j, hj⟩ := read_int hm
  have hl := (int_word hm).1
  have hr := read_sg .f64 (a := floatOfInt .f64 (m : Int)) (by rw [show FloatKind.f64.format = Ieee.double from rfl, inf_eq]; exact hl)
  rw [show FloatKind.f64.format = Ieee.double from rfl, hj] at hr
  unfold floatToIntVal
  rw [show FloatKind.f64.decode (sg .f64 (floatOfInt .f64 m)) = Ieee.double.read (sg .f64 (floatOfInt .f64 m)) from rfl, hr]
  have hi : (Datum.number true (m * 2 ^ j) (-(j : Int))).toInt .zero = some (-(m : Int)) := by
    simp only [Datum.toInt, Datum.integral]
    have a1 : (-(j : Int)).toNat = 0 := by omega
    have a2 : (- -(j : Int)).toNat = j := by omega
    rw [a1, a2]
    have hc : Toward.zero.cut true ((m * 2 ^ j) <<< 0) j = m := by
      have : Toward.zero.cut true ((m * 2 ^ j) <<< 0) j = Toward.down.cut false ((m * 2 ^ j) <<< 0) j := rfl
      rw [this, cut_down, Nat.shiftLeft_eq, Nat.pow_zero, Nat.mul_one, Nat.mul_div_cancel _ (Nat.two_pow_pos _)]
    rw [hc]
    simp [signed]
  simp only [Datum.opposite, Bool.not_false, hi]
  rw [if_pos]
  omega
/-- the whole number that is made of a sample -/
def xs (a : Nat) : Nat := whole .even (fop .mul .f64 (up a) C64)
theorem xs_nan {a : Nat} (h : isNaN .f32 a = true) : isNaN .f64 (fop .mul .f64 (up a) C64) = true := by
  rw [fop_nan_left _ rfl (by rw [isNaN_up, h])]; exact isNaN_qnan _
theorem e64 : FloatKind.f64.format.infRung = INF := by decide
theorem fi_w : floatOfInt .f64 ((32767 : Nat) : Int) = 4674736138332667904 ∧ floatOfInt .f64 ((32768 : Nat) : Int) = C64 := by decide +kernel
theorem isNaN_sg64 {a : Nat} (ha : a < INF) : isNaN .f64 (sg .f64 a) = false := by
  unfold isNaN
  rw [read_sgn .f64 (by rw [e64]; exact ha)]; rfl
theorem lo64 : sg .f64 C64 = 13898108450065350656 := by decide
theorem xs_cases {a : Nat} (ha : a < 4294967296) (hn : isNaN .f32 a = false) : isNaN .f64 (fop .mul .f64 (up a) C64) = false ∧ isNaN .f64 (xs a) = false ∧
    (((FloatKind.f64.format.order (xs a) 4674736138332667904 == some .gt) = true ∧ shortOf a = 32767) ∨
     ((FloatKind.f64.format.order (xs a) 4674736138332667904 == some .gt) = false ∧ (FloatKind.f64.format.order (xs a) 13898108450065350656 == some .lt) = true ∧ shortOf a = -32768) ∨
     ((FloatKind.f64.format.order (xs a) 4674736138332667904 == some .gt) = false ∧ (FloatKind.f64.format.order (xs a) 13898108450065350656 == some .lt) = false ∧ floatToIntVal .f64 (xs a) .i16 = some (shortOf a))) := by
  rcases word_cases ha with h | ⟨_, hp | rfl | ⟨b, hb, rfl⟩ | rfl⟩
  · rw [hn] at h; cases h
  · have hf := fi_lt hp
    refine ⟨isNaN_pos (k := .f64) (by rw [e64]; exact Nat.le_of_lt (p_pos hp).1), ?_⟩
    unfold xs
    rw [rs_pos hp]
    refine ⟨isNaN_int _ _, ?_⟩
    rw [short_pos hp, ord64 hf (by decide)]
    by_cases h : 32768 ≤ mh a
    · refine .inl ⟨?_, if_pos h⟩
      have h1 : floatOfInt .f64 ((32768 : Nat) : Int) ≤ floatOfInt .f64 (mh a : Int) := floatOfInt_mono (by omega) (by omega)
      rw [fi_w.2] at h1
      rw [beq_iff_eq, Nat.compare_eq_gt.2 (by unfold C64 at h1; omega)]
    · refine .inr (.inr ⟨?_, ?_, ?_⟩)
      · have h1 : floatOfInt .f64 (mh a : Int) ≤ floatOfInt .f64 ((32767 : Nat) : Int) := floatOfInt_mono (by omega) (by omega)
        rw [fi_w.1] at h1
        rw [beq_eq_false_iff_ne]
        intro h
        have := Nat.compare_eq_gt.1 (Option.some.inj h)
        omega
      · rw [← lo64, beq_eq_false_iff_ne]
        exact order_pn .f64 (by rw [e64]; exact hf) (by decide)
      · rw [if_neg h]
        exact toInt_k .i16 (by omega) (by rw [show IntKind.i16.max = 32767 by decide]; omega) (by decide)
  · refine ⟨by decide +kernel, by decide +kernel, .inl ⟨by decide +kernel, by decide +kernel⟩⟩
  · have hf := fi_lt hb
    obtain ⟨h1, h2⟩ := p_pos hb
    obtain ⟨h3, _⟩ := v_up hb
    refine ⟨?_, ?_⟩
    · rw [up_sg hb, mul_sg .f64 (by rw [e64]; exact h3) (by decide)]
      exact isNaN_sg64 h1
    unfold xs
    rw [rs_neg hb]
    refine ⟨isNaN_sg64 hf, .inr ?_⟩
    have g : (FloatKind.f64.format.order (sg .f64 (floatOfInt .f64 (mh b : Int))) 4674736138332667904 == some .gt) = false := by
      rw [beq_eq_false_iff_ne]
      exact order_np .f64 (by rw [e64]; exact hf) (by decide)
    rw [short_neg hb, ← lo64, order_sg .f64 (by rw [e64]; exact hf) (by decide), ord64 (by decide) hf]
    by_cases h : 32768 < mh b
    · refine .inl ⟨g, ?_, if_pos h⟩
      have h5 : floatOfInt .f64 ((32769 : Nat) : Int) ≤ floatOfInt .f64 (mh b : Int) := floatOfInt_mono (by omega) (by omega)
      have h6 : C64 < floatOfInt .f64 ((32769 : Nat) : Int) := by decide +kernel
      rw [beq_iff_eq, Nat.compare_eq_lt.2 (by omega)]
    · refine .inr ⟨g, ?_, ?_⟩
      · have h5 : floatOfInt .f64 (mh b : Int) ≤ floatOfInt .f64 ((32768 : Nat) : Int) := floatOfInt_mono (by omega) (by omega)
        rw [fi_w.2] at h5
        rw [beq_eq_false_iff_ne]
        intro h
        have := Nat.compare_eq_lt.1 (Option.some.inj h)
        omega
      · rw [if_neg h]
        exact toInt_negk .i16 (by omega) (by rw [show IntKind.i16.min = -32768 by decide]; omega) (by decide)
  · refine ⟨by decide +kernel, by decide +kernel, .inr (.inl ⟨by decide +kernel, by decide +kernel, by decide +kernel⟩)⟩
end Go.Proofs.Ytmhgcflccaflpaa.Fl
