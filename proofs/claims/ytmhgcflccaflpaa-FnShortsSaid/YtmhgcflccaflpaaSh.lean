
/-
Samples as short integers, over whole numbers.
-/
import Derived.Test.YtmhgcflccaflpaaSg
namespace Go.Proofs.Ytmhgcflccaflpaa.Fl
open Ieee Go Go.RowKit
set_option exponentiation.threshold 2000
def C64 : Nat := 4674736413210574848
def C32 : Nat := 1191182336
theorem inf32 : Ieee.single.infRung = 2139095040 := by decide
theorem least32 : Ieee.single.leastPlace = -149 := by decide
theorem v_up {a : Nat} (ha : a < 2139095040) : up a < INF ∧ v Ieee.double (up a) = v Ieee.single a * 2 ^ 925 := by
  have h := read_pos Ieee.single (x := a) (by rw [inf32]; exact ha)
  obtain ⟨_, j, hj⟩ := up_number h
  have hlt : up a < INF := Nat.lt_of_le_of_lt (up_mono (X := 2139095039) (by decide) (by omega)) (by decide +kernel)
  rw [read_pos _ (by rw [inf_eq]; exact hlt)] at hj
  injection hj with _ h1 h2
  refine ⟨hlt, ?_⟩
  have p1 := pl_ge Ieee.double (up a)
  have p2 := pl_ge Ieee.single a
  rw [least64] at p1
  rw [least32] at p2
  unfold v
  rw [h1, least64, least32, Nat.mul_assoc, Nat.mul_assoc, ← Nat.pow_add, ← Nat.pow_add]
  congr 2
  omega
theorem v_15 {x : Nat} (h : B52 ≤ x) : v Ieee.double (x + 15 * B52) = v Ieee.double x * 2 ^ 15 := by
  have hq : 1 ≤ x / B52 := (Nat.le_div_iff_mul_le b52_pos).2 (by omega)
  unfold v
  rw [mg_norm h, mg_norm (by omega), pl_norm h, pl_norm (by omega), least64, Nat.add_mul_mod_self_right, Nat.add_mul_div_right _ _ b52_pos, Nat.mul_assoc, ← Nat.pow_add]
  congr 2
  omega
theorem p_pos {a : Nat} (ha : a < 2139095040) : fop .mul .f64 (up a) C64 < INF ∧ v Ieee.double (fop .mul .f64 (up a) C64) = v Ieee.single a * 2 ^ 940 := by
  by_cases h0 : a = 0
  · subst h0
    have e : fop .mul .f64 (up 0) C64 = 0 := by decide +kernel
    rw [e]
    exact ⟨by decide, by decide +kernel⟩
  · obtain ⟨h1, h2⟩ := v_up ha
    have b1 : B52 ≤ up 1 := by decide +kernel
    have b2 : up 2139095039 + 15 * B52 < INF := by decide +kernel
    have m1 : up 1 ≤ up a := up_mono (by rw [inf32]; exact ha) (by omega)
    have m2 : up a ≤ up 2139095039 := up_mono (by decide) (by omega)
    have e : fop .mul .f64 (up a) C64 = up a + 15 * B52 := by
      rw [show C64 = 1038 * B52 by decide]
      exact mul_pw (by omega) h1 (by decide) (by decide) (by omega) (by omega) (by omega)
    rw [e]
    refine ⟨by omega, ?_⟩
    rw [v_15 (by omega), h2, Nat.mul_assoc, ← Nat.pow_add]
/-- the whole number nearest to a sample's 32768-fold -/
def mh (a : Nat) : Nat := rhe (v Ieee.single a) (2 ^ 134)
theorem rhe_940 (n : Nat) : rhe (n * 2 ^ 940) (2 ^ 1074) = rhe n (2 ^ 134) := by
  rw [show (2 : Nat) ^ 1074 = 2 ^ 134 * 2 ^ 940 by rw [← Nat.pow_add]]
  exact rhe_mul _ _ _ (Nat.two_pow_pos _)
theorem rs_pos {a : Nat} (ha : a < 2139095040) : whole .even (fop .mul .f64 (up a) C64) = floatOfInt .f64 (mh a : Nat) := by
  obtain ⟨h1, h2⟩ := p_pos ha
  rw [whole_even (by rw [inf_eq]; exact h1), h2, rhe_940]; rfl
theorem mul_sg (k : FloatKind) {a c : Nat} (ha : a < k.format.infRung) (hc : c < k.format.infRung) : fop .mul k (sg k a) c = sg k (fop .mul k a c) := by
  simp only [fop, Format.mul]
  rw [read_sgn k ha, read_pos k.format ha, read_pos k.format hc]
  simp only [Datum.product, Bool.true_xor, Bool.false_xor, Bool.not_false, Option.map_some, Option.getD_some]
  show k.format.nearest true _ _ = sg k (k.format.nearest false _ _)
  rw [nearest_sg]; rfl
theorem whole_even_sg {a : Nat} (ha : a < INF) : whole .even (sg .f64 a) = sg .f64 (floatOfInt .f64 (rhe (v Ieee.double a) (2 ^ 1074) : Nat)) := by
  have hr := read_sgn .f64 (a := a) (by rw [show FloatKind.f64.format = Ieee.double from rfl, inf_eq]; exact ha)
  rw [show FloatKind.f64.format = Ieee.double from rfl] at hr
  have hn : isNaN .f64 (sg .f64 a) = false := by unfold isNaN; rw [show FloatKind.f64.format = Ieee.double from rfl, hr]; rfl
  unfold whole
  rw [hn]
  simp only [Bool.false_eq_true, if_false]
  rw [hr]
  simp only [Datum.integral, Nat.shiftLeft_eq, cut_even]
  rw [over Ieee.double 1074 (by decide) a rhe (fun n g c hc => rhe_mul n g c hc)]
  show Ieee.double.nearest true _ 0 = _
  rw [nearest_sg, floatOfInt_pos]; rfl
theorem rs_neg {a : Nat} (ha : a < 2139095040) : whole .even (fop .mul .f64 (up (sg .f32 a)) C64) = sg .f64 (floatOfInt .f64 (mh a : Nat)) := by
  obtain ⟨h1, h2⟩ := p_pos ha
  obtain ⟨h3, _⟩ := v_up ha
  rw [up_sg ha, mul_sg .f64 (by rw [show FloatKind.f64.format = Ieee.double from rfl, inf_eq]; exact h3) (by decide), whole_even_sg h1, h2, rhe_940]; rfl
theorem mh_mono {a b : Nat} (h : a ≤ b) : mh a ≤ mh b := rhe_mono (Nat.two_pow_pos _) (v_le _ h)
theorem mh_err (a : Nat) : 2 * (mh a * 2 ^ 134) ≤ 2 * v Ieee.single a + 2 ^ 134 ∧ 2 * v Ieee.single a ≤ 2 * (mh a * 2 ^ 134) + 2 ^ 134 := by
  unfold mh rhe
  generalize v Ieee.single a = n
  have hg : 0 < 2 ^ 134 := Nat.two_pow_pos 134
  generalize 2 ^ 134 = g at *
  have e := Nat.div_add_mod n g
  have hl := Nat.mod_lt n hg
  rw [Nat.mul_comm g] at e
  split
  · rename_i h
    rw [Nat.add_mul, Nat.one_mul]
    omega
  · rename_i h
    rw [Nat.add_zero]
    omega
theorem fi_lt {a : Nat} (ha : a < 2139095040) : floatOfInt .f64 (mh a : Nat) < INF := by
  have h1 : floatOfInt .f64 (mh a : Nat) ≤ floatOfInt .f64 (mh 2139095039 : Nat) := floatOfInt_mono (by omega) (by have := mh_mono (show a ≤ 2139095039 by omega); omega)
  have h2 : floatOfInt .f64 (mh 2139095039 : Nat) < INF := by decide +kernel
  omega
theorem ord64 {x y : Nat} (hx : x < INF) (hy : y < INF) : FloatKind.f64.format.order x y = some (compare x y) := order_pos Ieee.double (by rw [inf_eq]; exact hx) (by rw [inf_eq]; exact hy)
theorem ord32 {x y : Nat} (hx : x < 2139095040) (hy : y < 2139095040) : FloatKind.f32.format.order x y = some (compare x y) := order_pos Ieee.single (by rw [inf32]; exact hx) (by rw [inf32]; exact hy)
theorem order_np (k : FloatKind) {a c : Nat} (ha : a < k.format.infRung) (hc : c < k.format.infRung) : k.format.order (sg k a) c ≠ some .gt := by
  unfold Format.order
  rw [read_sgn k ha, read_pos k.format hc]
  simp only [Datum.order, signed, if_true, Bool.false_eq_true, if_false]
  generalize mg k.format a <<< (pl k.format a - min (pl k.format a) (pl k.format c)).toNat = A
  generalize mg k.format c <<< (pl k.format c - min (pl k.format a) (pl k.format c)).toNat = B
  intro h
  have := Int.compare_eq_gt.1 (Option.some.inj h)
  omega
theorem order_pn (k : FloatKind) {a c : Nat} (ha : a < k.format.infRung) (hc : c < k.format.infRung) : k.format.order a (sg k c) ≠ some .lt := by
  unfold Format.order
  rw [read_sgn k hc, read_pos k.format ha]
  simp only [Datum.order, signed, if_true, Bool.false_eq_true, if_false]
  generalize mg k.format a <<< (pl k.format a - min (pl k.format a) (pl k.format c)).toNat = A
  generalize mg k.format c <<< (pl k.format c - min (pl k.format a) (pl k.format c)).toNat = B
  intro h
  have := Int.compare_eq_lt.1 (Option.some.inj h)
  omega
/-- a difference that is negative -/
theorem sub_rev (f : Format) {x y : Nat} (hy : y < f.infRung) (hx : x < y) : f.sub x y = some (f.signWeight + min (rung f (v f y - v f x) f.leastPlace) f.infRung) := by
  have b1 := pl_ge f x
  have b2 := pl_ge f y
  have hv := v_lt f hx
  unfold Format.sub
  rw [read_pos f hy, read_pos f (Nat.lt_trans hx hy)]
  simp only [Datum.opposite, Datum.sum, signed, Bool.false_eq_true, if_false, Bool.not_false, if_true, Bool.false_and, Option.map_some]
  generalize hb : min (pl f x) (pl f y) = base
  have s1 := signed_v f x base (by omega) (by omega)
  have s2 := signed_v f y base (by omega) (by omega)
  have hle : mg f x <<< (pl f x - base).toNat < mg f y <<< (pl f y - base).toNat := by
    rw [← s1, ← s2] at hv
    exact Nat.lt_of_mul_lt_mul_right hv
  generalize mg f y <<< (pl f y - base).toNat = B at *
  generalize mg f x <<< (pl f x - base).toNat = A at *
  have e : (A : Int) + -(B : Int) = -((B - A : Nat) : Int) := by omega
  rw [e]
  congr 1
  have hs : (if -((B - A : Nat) : Int) = 0 then false else decide (-((B - A : Nat) : Int) < 0)) = true := by
    rw [if_neg (by omega)]
    exact decide_eq_true (by omega)
  rw [hs, Int.natAbs_neg, Int.natAbs_natCast]
  show f.nearest true _ base = _
  rw [nearest_sg, nearest_rung, rung_at f (by omega), Nat.sub_mul, s1, s2]
  rfl
def W16 : Nat := 931135488
theorem v_16 : v Ieee.single W16 = 2 ^ 133 := by decide +kernel
/-- two samples that are near each other -/
theorem sub_near {x y : Nat} (hx : x < 2139095040) (hy : y < 2139095040) (h1 : v Ieee.single x ≤ v Ieee.single y + 2 ^ 133) (h2 : v Ieee.single y ≤ v Ieee.single x + 2 ^ 133) :
    ∃ D, D ≤ W16 ∧ (fop .sub .f32 x y = D ∨ fop .sub .f32 x y = sg .f32 D) := by
  rcases Nat.lt_or_ge x y with h | h
  · refine ⟨min (rung Ieee.single (v Ieee.single y - v Ieee.single x) Ieee.single.leastPlace) Ieee.single.infRung, ?_, .inr ?_⟩
    · refine Nat.le_trans (Nat.min_le_left _ _) ?_
      have := rung_mono Ieee.single Ieee.single.leastPlace (show v Ieee.single y - v Ieee.single x ≤ v Ieee.single W16 by rw [v_16]; omega)
      rwa [rung_v] at this
    · simp only [fop]
      rw [show FloatKind.f32.format = Ieee.single from rfl, sub_rev Ieee.single (by rw [inf32]; exact hy) h]; rfl
  · refine ⟨min (rung Ieee.single (v Ieee.single x - v Ieee.single y) Ieee.single.leastPlace) Ieee.single.infRung, ?_, .inl ?_⟩
    · refine Nat.le_trans (Nat.min_le_left _ _) ?_
      have := rung_mono Ieee.single Ieee.single.leastPlace (show v Ieee.single x - v Ieee.single y ≤ v Ieee.single W16 by rw [v_16]; omega)
      rwa [rung_v] at this
    · simp only [fop]
      rw [show FloatKind.f32.format = Ieee.single from rfl, sub_pos Ieee.single (by rw [inf32]; exact hx) h]; rfl
/-- what is near is less than 0.00002 -/
theorem near_small {d D : Nat} (hD : D ≤ W16) (h : d = D ∨ d = sg .f32 D) :
    (FloatKind.f32.format.order d 933741996 == some .gt) = false ∧ (FloatKind.f32.format.order d (sg .f32 933741996) == some .lt) = false := by
  have e1 : FloatKind.f32.format.infRung = 2139095040 := by decide
  have hD2 : D < 2139095040 := by unfold W16 at hD; omega
  have hD3 : D ≤ 933741996 := by unfold W16 at hD; omega
  rcases h with rfl | rfl
  · constructor
    · rw [ord32 hD2 (by decide)]
      rw [beq_eq_false_iff_ne]
      intro h
      have := Nat.compare_eq_gt.1 (Option.some.inj h)
      omega
    · rw [beq_eq_false_iff_ne]
      exact order_pn .f32 (by rw [e1]; exact hD2) (by decide)
  · constructor
    · rw [beq_eq_false_iff_ne]
      exact order_np .f32 (by rw [e1]; exact hD2) (by decide)
    · rw [order_sg .f32 (by rw [e1]; exact hD2) (by decide), ord32 (by decide) hD2, beq_eq_false_iff_ne]
      intro h
      have := Nat.compare_eq_lt.1 (Option.some.inj h)
      omega
/-! ### the samples of short integers -/
def fsh (n : Int) : Nat := fop .quo .f32 (floatOfInt .f32 n) C32
def okf (m : Nat) : Bool := decide (fsh (m : Int) < 2139095040) && v Ieee.single (fsh (m : Int)) == m * 2 ^ 134
def all2 (p : Nat → Bool) : Nat → Nat → Bool
  | 0, lo => p lo
  | k + 1, lo => all2 p k lo && all2 p k (lo + 2 ^ k)
theorem all2_spec (p : Nat → Bool) : ∀ (k lo : Nat), all2 p k lo = true → ∀ m, lo ≤ m → m < lo + 2 ^ k → p m = true
  | 0, lo, h, m, h1, h2 => by
    obtain rfl : m = lo := by simp at h2; omega
    exact h
  | k + 1, lo, h, m, h1, h2 => by
    unfold all2 at h
    rw [Bool.and_eq_true] at h
    rw [Nat.pow_succ] at h2
    rcases Nat.lt_or_ge m (lo + 2 ^ k) with g | g
    · exact all2_spec p k lo h.1 m h1 g
    · exact all2_spec p k (lo + 2 ^ k) h.2 m g (by omega)
end Go.Proofs.Ytmhgcflccaflpaa.Fl
