
/-
Rounding to a binary format, over whole numbers: a number is rounded to a rung; rounding is monotone, and exact where the format has the number.
-/
import Ieee.Arith
import Derived.Laws.FloatBits
namespace Go.Proofs.YtbdanadmabemdaaDoor.Fl
open Ieee

/-- 'n / g' to the nearest whole number, between two to the even one -/
def rhe (n g : Nat) : Nat := n / g + (if g < 2 * (n % g) ∨ (g = 2 * (n % g) ∧ n / g % 2 = 1) then 1 else 0)

theorem rhe_mul (n g c : Nat) (hc : 0 < c) : rhe (n * c) (g * c) = rhe n g := by
  unfold rhe
  rw [Nat.mul_div_mul_right _ _ hc, Nat.mul_mod_mul_right]
  have h1 : (g * c < 2 * (n % g * c)) ↔ (g < 2 * (n % g)) := by
    rw [← Nat.mul_assoc]; exact Nat.mul_lt_mul_right hc
  have h2 : (g * c = 2 * (n % g * c)) ↔ (g = 2 * (n % g)) := by
    rw [← Nat.mul_assoc]
    constructor
    · intro h; exact Nat.eq_of_mul_eq_mul_right hc h
    · intro h; rw [← h]
  simp only [h1, h2]

theorem rhe_one (n : Nat) : rhe n 1 = n := by
  unfold rhe; simp [Nat.mod_one]

theorem rhe_exact (k g : Nat) (hg : 0 < g) : rhe (k * g) g = k := by
  have := rhe_mul k 1 g hg
  rw [Nat.one_mul] at this
  rw [this, rhe_one]

theorem rhe_le (n g : Nat) : rhe n g ≤ n / g + 1 := by unfold rhe; split <;> omega
theorem le_rhe (n g : Nat) : n / g ≤ rhe n g := by unfold rhe; omega

theorem rhe_mono {n n' g : Nat} (_hg : 0 < g) (h : n ≤ n') : rhe n g ≤ rhe n' g := by
  have hq : n / g ≤ n' / g := Nat.div_le_div_right h
  by_cases he : n / g = n' / g
  · have e1 := Nat.div_add_mod n g
    have e2 := Nat.div_add_mod n' g
    have hr : n % g ≤ n' % g := by
      rw [he] at e1; omega
    unfold rhe
    rw [he]
    split
    · rename_i hc
      rw [if_pos (by omega)]
      omega
    · omega
  · have := rhe_le n g
    have := le_rhe n' g
    omega

theorem cut_even (neg : Bool) (n d : Nat) : Toward.even.cut neg n d = rhe n (2 ^ d) := by
  unfold Toward.cut
  simp only [Nat.one_shiftLeft]
  by_cases hd : d ≤ n.log2 + 2
  · rw [Nat.min_eq_left hd]
    unfold rhe
    have hg : 0 < 2 ^ d := Nat.two_pow_pos d
    generalize 2 ^ d = g at hg
    by_cases h1 : g < 2 * (n % g)
    · simp [h1]
    · by_cases h2 : g = 2 * (n % g) ∧ n / g % 2 = 1
      · rw [if_pos (Or.inr h2)]; simp [← h2.1, h2.2]
      · rw [if_neg (by rintro (h | h); exact h1 h; exact h2 h)]
        have : (decide (g < 2 * (n % g)) || g == 2 * (n % g) && n / g % 2 == 1) = false := by
          simp only [Bool.or_eq_false_iff, decide_eq_false_iff_not, Bool.and_eq_false_iff, beq_eq_false_iff_ne]
          refine ⟨h1, ?_⟩
          by_cases h3 : g = 2 * (n % g)
          · right; intro h4; exact h2 ⟨h3, h4⟩
          · left; exact h3
        rw [this]; rfl
  · rw [Nat.min_eq_right (by omega)]
    have hn : n < 2 ^ (n.log2 + 1) := Nat.lt_log2_self
    have hp : 2 ^ (n.log2 + 2) = 2 * 2 ^ (n.log2 + 1) := by rw [Nat.pow_succ, Nat.mul_comm]
    have hpd : 2 ^ (n.log2 + 2) ≤ 2 ^ d := Nat.pow_le_pow_right (by decide) (by omega)
    generalize 2 ^ (n.log2 + 1) = G at *
    generalize 2 ^ (n.log2 + 2) = H at *
    generalize 2 ^ d = D at *
    subst hp
    have z1 : n / (2 * G) = 0 := Nat.div_eq_of_lt (by omega)
    have z2 : n % (2 * G) = n := Nat.mod_eq_of_lt (by omega)
    have z3 : n / D = 0 := Nat.div_eq_of_lt (by omega)
    have z4 : n % D = n := Nat.mod_eq_of_lt (by omega)
    unfold rhe
    rw [z1, z2, z3, z4, if_neg (by omega)]
    have : (decide (2 * G < 2 * n) || 2 * G == 2 * n && 0 % 2 == 1) = false := by
      simp only [Bool.or_eq_false_iff, decide_eq_false_iff_not, Bool.and_eq_false_iff]
      exact ⟨by omega, Or.inr rfl⟩
    rw [this]; rfl

section
variable (f : Format)

/-- the place of the last digit that is kept -/
def lastOf (m : Nat) (e : Int) : Int := max (e + m.log2 - f.fractionBits) f.leastPlace
/-- the rung to which a number is rounded, infinity not looked at -/
def rung (m : Nat) (e : Int) : Nat :=
  if m = 0 then 0 else (lastOf f m e - f.leastPlace).toNat * f.binade + rhe (m * 2 ^ (e - lastOf f m e).toNat) (2 ^ (lastOf f m e - e).toNat)

theorem nearest_rung (s : Bool) (m : Nat) (e : Int) : f.nearest s m e = f.word s (min (rung f m e) f.infRung) := by
  unfold Format.nearest rung lastOf
  by_cases h : m = 0
  · rw [if_pos h, if_pos h]; simp
  · rw [if_neg h, if_neg h]
    dsimp only
    rw [cut_even, Nat.shiftLeft_eq]

theorem log2_of {n k : Nat} (h1 : 2 ^ k ≤ n) (h2 : n < 2 ^ (k + 1)) : n.log2 = k := by
  have h0 : n ≠ 0 := by have := Nat.two_pow_pos k; omega
  have g1 : 2 ^ n.log2 ≤ n := Nat.log2_self_le h0
  have g2 : n < 2 ^ (n.log2 + 1) := Nat.lt_log2_self
  generalize n.log2 = L at *
  rcases Nat.lt_trichotomy L k with h3 | h3 | h3
  · have : 2 ^ (L + 1) ≤ 2 ^ k := Nat.pow_le_pow_right (by decide) (by omega)
    omega
  · exact h3
  · have : 2 ^ (k + 1) ≤ 2 ^ L := Nat.pow_le_pow_right (by decide) (by omega)
    omega
theorem log2_scale (m j : Nat) (h : m ≠ 0) : (m * 2 ^ j).log2 = m.log2 + j := by
  apply log2_of
  · rw [Nat.pow_add]; exact Nat.mul_le_mul_right _ (Nat.log2_self_le h)
  · rw [Nat.add_right_comm, Nat.pow_add]; exact Nat.mul_lt_mul_of_pos_right Nat.lt_log2_self (Nat.two_pow_pos _)

theorem rung_scale (m j : Nat) (e : Int) : rung f (m * 2 ^ j) (e - j) = rung f m e := by
  by_cases h : m = 0
  · subst h; simp [rung]
  · have h' : m * 2 ^ j ≠ 0 := Nat.mul_ne_zero h (Nat.ne_of_gt (Nat.two_pow_pos j))
    have hl : lastOf f (m * 2 ^ j) (e - j) = lastOf f m e := by
      unfold lastOf; rw [log2_scale m j h]
      have : e - (j : Int) + ((m.log2 + j : Nat) : Int) = e + (m.log2 : Int) := by omega
      rw [this]
    unfold rung
    rw [if_neg h, if_neg h', hl]
    generalize lastOf f m e = l
    congr 1
    -- both sides over one power of two
    by_cases c1 : l ≤ e - j
    · have a1 : (l - (e - j)).toNat = 0 := by omega
      have a2 : (l - e).toNat = 0 := by omega
      have a3 : (e - l).toNat = (e - j - l).toNat + j := by omega
      rw [a1, a2, a3, Nat.pow_add]
      congr 1
      rw [Nat.mul_comm (2 ^ (e - ↑j - l).toNat), Nat.mul_assoc]
    · have a1 : (e - j - l).toNat = 0 := by omega
      rw [a1, Nat.pow_zero, Nat.mul_one]
      by_cases c2 : l ≤ e
      · have a2 : (l - e).toNat = 0 := by omega
        have a3 : j = (e - l).toNat + (l - (e - j)).toNat := by omega
        rw [a2, Nat.pow_zero]
        conv => lhs; rw [a3, Nat.pow_add, ← Nat.mul_assoc]
        rw [rhe_one]
        have := rhe_exact (m * 2 ^ (e - l).toNat) (2 ^ (l - (e - j)).toNat) (Nat.two_pow_pos _)
        rw [← a3]; exact this
      · have a2 : (e - l).toNat = 0 := by omega
        have a3 : (l - (e - j)).toNat = (l - e).toNat + j := by omega
        rw [a2, a3, Nat.pow_zero, Nat.mul_one, Nat.pow_add]
        exact rhe_mul _ _ _ (Nat.two_pow_pos j)

/-- what is kept of a number that is not 0 -/
theorem kept_le (m : Nat) (e : Int) (_h : m ≠ 0) : rhe (m * 2 ^ (e - lastOf f m e).toNat) (2 ^ (lastOf f m e - e).toNat) ≤ 2 * f.binade := by
  have hlo : e + m.log2 - f.fractionBits ≤ lastOf f m e := Int.le_max_left ..
  generalize hL : lastOf f m e = l at *
  have hm : m < 2 ^ (m.log2 + 1) := Nat.lt_log2_self
  have hb : 2 * f.binade = 2 ^ (f.fractionBits + 1) := by unfold Format.binade; rw [Nat.pow_succ, Nat.mul_comm]
  rw [hb]
  refine Nat.le_trans (rhe_le _ _) ?_
  have h1 : m * 2 ^ (e - l).toNat < 2 ^ (m.log2 + 1 + (e - l).toNat) := by
    rw [Nat.pow_add]; exact Nat.mul_lt_mul_of_pos_right hm (Nat.two_pow_pos _)
  have h2 : m * 2 ^ (e - l).toNat / 2 ^ (l - e).toNat < 2 ^ (f.fractionBits + 1) := by
    rw [Nat.div_lt_iff_lt_mul (Nat.two_pow_pos _), ← Nat.pow_add]
    refine Nat.lt_of_lt_of_le h1 (Nat.pow_le_pow_right (by decide) ?_)
    omega
  omega

theorem le_kept (m : Nat) (e : Int) (h : m ≠ 0) (hl : f.leastPlace < lastOf f m e) : f.binade ≤ rhe (m * 2 ^ (e - lastOf f m e).toNat) (2 ^ (lastOf f m e - e).toNat) := by
  have hlo : lastOf f m e = e + m.log2 - f.fractionBits := by unfold lastOf at *; omega
  generalize hL : lastOf f m e = l at *
  refine Nat.le_trans ?_ (le_rhe _ _)
  rw [Nat.le_div_iff_mul_le (Nat.two_pow_pos _)]
  have hm : 2 ^ m.log2 ≤ m := Nat.log2_self_le h
  unfold Format.binade
  rw [← Nat.pow_add]
  refine Nat.le_trans ?_ (Nat.mul_le_mul_right _ hm)
  rw [← Nat.pow_add]
  exact Nat.pow_le_pow_right (by decide) (by omega)

theorem log2_mono {m m' : Nat} (h : m ≤ m') : m.log2 ≤ m'.log2 := by
  by_cases h0 : m = 0
  · subst h0; simp
  · by_cases hlt : m.log2 ≤ m'.log2
    · exact hlt
    · exfalso
      have h1 : m' < 2 ^ (m'.log2 + 1) := Nat.lt_log2_self
      have h2 : 2 ^ m.log2 ≤ m := Nat.log2_self_le h0
      have h3 : 2 ^ (m'.log2 + 1) ≤ 2 ^ m.log2 := Nat.pow_le_pow_right (by decide) (by omega)
      omega

theorem rung_mono {m m' : Nat} (e : Int) (h : m ≤ m') : rung f m e ≤ rung f m' e := by
  by_cases h0 : m = 0
  · subst h0; simp [rung]
  · have h0' : m' ≠ 0 := by omega
    have hlog := log2_mono h
    have hll : lastOf f m e ≤ lastOf f m' e := by unfold lastOf; omega
    have hge : f.leastPlace ≤ lastOf f m e := Int.le_max_right ..
    by_cases he : lastOf f m e = lastOf f m' e
    · unfold rung
      rw [if_neg h0, if_neg h0', ← he]
      exact Nat.add_le_add_left (rhe_mono (Nat.two_pow_pos _) (Nat.mul_le_mul_right _ h)) _
    · have k1 := kept_le f m e h0
      have k2 := le_kept f m' e h0' (by omega)
      unfold rung
      rw [if_neg h0, if_neg h0']
      generalize rhe (m * 2 ^ (e - lastOf f m e).toNat) (2 ^ (lastOf f m e - e).toNat) = A at *
      generalize rhe (m' * 2 ^ (e - lastOf f m' e).toNat) (2 ^ (lastOf f m' e - e).toNat) = A' at *
      have hd : (lastOf f m e - f.leastPlace).toNat + 1 ≤ (lastOf f m' e - f.leastPlace).toNat := by omega
      generalize (lastOf f m e - f.leastPlace).toNat = X at *
      generalize (lastOf f m' e - f.leastPlace).toNat = X' at *
      have : (X + 1) * f.binade ≤ X' * f.binade := Nat.mul_le_mul_right _ hd
      rw [Nat.add_mul] at this
      omega

/-- a rung's magnitude and place -/
def mg (r : Nat) : Nat := if r < f.binade then r else f.binade + r % f.binade
def pl (r : Nat) : Int := if r < f.binade then f.leastPlace else f.leastPlace + (r / f.binade - 1 : Nat)

theorem read_word (s : Bool) (r : Nat) (h : r < f.infRung) : f.read (f.word s r) = .number s (mg f r) (pl f r) := by
  have hlt := f.infRung_lt
  have hp : 0 < f.signWeight := Nat.two_pow_pos _
  have hr : f.word s r % f.signWeight = r := by
    unfold Format.word
    cases s
    · simp only [Bool.false_eq_true, if_false]; exact Nat.mod_eq_of_lt (by omega)
    · simp only [if_true]; rw [Nat.add_mod_left]; exact Nat.mod_eq_of_lt (by omega)
  have hs : (f.word s r / f.signWeight % 2 == 1) = s := by
    unfold Format.word
    cases s
    · simp only [Bool.false_eq_true, if_false]; rw [Nat.div_eq_of_lt (by omega)]; rfl
    · simp only [if_true]; rw [Nat.add_div_left _ hp, Nat.div_eq_of_lt (by omega)]; rfl
  unfold Format.read mg pl
  simp only [hr, hs]
  by_cases hb : r < f.binade
  · rw [if_pos hb, if_pos hb, if_pos hb]
  · rw [if_neg hb, if_neg hb, if_neg hb, if_pos h]

theorem log2_binade (c : Nat) (h : c < f.binade) : (f.binade + c).log2 = f.fractionBits := by
  unfold Format.binade at *
  exact log2_of (by omega) (by rw [Nat.pow_succ]; omega)

theorem rung_exact (r : Nat) : rung f (mg f r) (pl f r) = r := by
  have hB : 0 < f.binade := Nat.two_pow_pos _
  unfold mg pl
  by_cases hb : r < f.binade
  · rw [if_pos hb, if_pos hb]
    unfold rung
    by_cases h0 : r = 0
    · rw [if_pos h0, h0]
    · rw [if_neg h0]
      have hl : r.log2 < f.fractionBits := (Nat.log2_lt h0).2 hb
      have : lastOf f r f.leastPlace = f.leastPlace := by unfold lastOf; omega
      rw [this]; simp [rhe_one]
  · rw [if_neg hb, if_neg hb]
    have hm : r % f.binade < f.binade := Nat.mod_lt _ hB
    have hl := log2_binade f _ hm
    have h0 : f.binade + r % f.binade ≠ 0 := by omega
    have hq : 1 ≤ r / f.binade := (Nat.one_le_div_iff hB).2 (by omega)
    have hlast : lastOf f (f.binade + r % f.binade) (f.leastPlace + (r / f.binade - 1 : Nat)) = f.leastPlace + (r / f.binade - 1 : Nat) := by
      unfold lastOf; rw [hl]; omega
    unfold rung
    rw [if_neg h0, hlast]
    simp only [Int.sub_self, Int.toNat_zero, Nat.pow_zero, Nat.mul_one, rhe_one]
    have e1 : (f.leastPlace + ((r / f.binade - 1 : Nat) : Int) - f.leastPlace).toNat = r / f.binade - 1 := by omega
    rw [e1]
    have e2 := Nat.div_add_mod r f.binade
    have e3 : (r / f.binade - 1) * f.binade + f.binade = r / f.binade * f.binade := by
      rw [Nat.sub_mul, Nat.one_mul]
      have : f.binade ≤ r / f.binade * f.binade := by
        have := Nat.mul_le_mul_right f.binade hq
        omega
      omega
    rw [Nat.mul_comm] at e2
    omega

/-- a word that stands for a number is written back as it was -/
theorem write_read (he : 1 ≤ f.exponentBits) (b : Nat) (hb : b < 2 ^ f.width) (h : (f.read b).isNaN = false) : f.write (f.read b) = b := by
  have hp : 0 < f.signWeight := Nat.two_pow_pos _
  have two : 2 ^ f.width = 2 * f.signWeight := by
    unfold Format.width Format.signWeight
    rw [Nat.add_assoc, Nat.add_comm 1, Nat.pow_succ, Nat.mul_comm]
  have hs2 : b / f.signWeight < 2 := by
    rw [Nat.div_lt_iff_lt_mul hp, ← two]; exact hb
  have hbi : f.binade ≤ f.infRung := by
    unfold Format.infRung
    have : 2 ^ 1 ≤ 2 ^ f.exponentBits := Nat.pow_le_pow_right (by decide) he
    have : 1 * f.binade ≤ (2 ^ f.exponentBits - 1) * f.binade := Nat.mul_le_mul_right _ (by omega)
    omega
  have hw : b = f.word (b / f.signWeight % 2 == 1) (b % f.signWeight) := by
    have e := Nat.div_add_mod b f.signWeight
    unfold Format.word
    have : b / f.signWeight = 0 ∨ b / f.signWeight = 1 := by generalize b / f.signWeight = q at hs2; omega
    rcases this with h | h
    · rw [h] at e ⊢
      rw [if_neg (by decide)]; omega
    · rw [h] at e ⊢
      rw [if_pos (by decide)]; omega
  by_cases hr : b % f.signWeight < f.infRung
  · have hrd : f.read b = .number (b / f.signWeight % 2 == 1) (mg f (b % f.signWeight)) (pl f (b % f.signWeight)) := by
      conv => lhs; rw [hw]
      exact read_word f _ _ hr
    rw [hrd]
    show f.nearest _ _ _ = b
    rw [nearest_rung, rung_exact, Nat.min_eq_left (by omega)]
    exact hw.symm
  · by_cases hi : b % f.signWeight = f.infRung
    · have hnb : ¬ b % f.signWeight < f.binade := by omega
      have hrd : f.read b = .infinity (b / f.signWeight % 2 == 1) := by
        unfold Format.read; simp only []
        rw [if_neg hnb, if_neg hr, if_pos hi]
      rw [hrd]
      show f.word _ f.infRung = b
      rw [← hi]; exact hw.symm
    · exfalso
      have hrd : (f.read b).isNaN = true := by
        unfold Format.read; simp only []
        rw [if_neg (by omega), if_neg hr, if_neg hi]; rfl
      rw [h] at hrd; cases hrd

/-- a number that the format has, written and read again -/
theorem read_write_exact (s : Bool) (m : Nat) (e : Int) (h : m ≠ 0) (hl : lastOf f m e ≤ e) (hi : rung f m e < f.infRung) :
    f.read (f.write (.number s m e)) = .number s (m * 2 ^ (e - lastOf f m e).toNat) (lastOf f m e) := by
  have hB : 0 < f.binade := Nat.two_pow_pos _
  show f.read (f.nearest s m e) = _
  rw [nearest_rung, Nat.min_eq_left (by omega), read_word f s _ hi]
  have k1 := kept_le f m e h
  have k2 := le_kept f m e h
  have hge : f.leastPlace ≤ lastOf f m e := Int.le_max_right ..
  have hlt : m * 2 ^ (e - lastOf f m e).toNat < 2 * f.binade := by
    have hlo : e + m.log2 - f.fractionBits ≤ lastOf f m e := Int.le_max_left ..
    have hm : m < 2 ^ (m.log2 + 1) := Nat.lt_log2_self
    have h1 : m * 2 ^ (e - lastOf f m e).toNat < 2 ^ (m.log2 + 1) * 2 ^ (e - lastOf f m e).toNat := Nat.mul_lt_mul_of_pos_right hm (Nat.two_pow_pos _)
    rw [← Nat.pow_add] at h1
    have h2 : 2 ^ (m.log2 + 1 + (e - lastOf f m e).toNat) ≤ 2 ^ (f.fractionBits + 1) := Nat.pow_le_pow_right (by decide) (by omega)
    rw [Nat.pow_succ _ f.fractionBits] at h2
    unfold Format.binade
    omega
  unfold rung
  rw [if_neg h]
  have hz : (lastOf f m e - e).toNat = 0 := by omega
  rw [hz, Nat.pow_zero, rhe_one] at k1 k2 ⊢
  generalize lastOf f m e = l at *
  generalize m * 2 ^ (e - l).toNat = M at *
  unfold mg pl
  by_cases h0 : l = f.leastPlace
  · subst h0
    simp only [Int.sub_self, Int.toNat_zero, Nat.zero_mul, Nat.zero_add]
    by_cases hM : M < f.binade
    · rw [if_pos hM, if_pos hM]
    · rw [if_neg hM, if_neg hM]
      have e1 : M / f.binade = 1 := by
        apply Nat.div_eq_of_lt_le <;> omega
      have e2 := Nat.div_add_mod M f.binade
      rw [e1] at e2 ⊢
      congr 1 <;> omega
  · have hM := k2 (by omega)
    generalize hX : (l - f.leastPlace).toNat = X at *
    have hX1 : 1 ≤ X := by omega
    have hXB : 1 * f.binade ≤ X * f.binade := Nat.mul_le_mul_right _ hX1
    rw [if_neg (by omega), if_neg (by omega)]
    have e1 : (X * f.binade + M) / f.binade = X + 1 := by
      rw [Nat.add_comm, Nat.add_mul_div_right _ _ hB]
      have : M / f.binade = 1 := by apply Nat.div_eq_of_lt_le <;> omega
      omega
    have e2 : (X * f.binade + M) % f.binade = M - f.binade := by
      rw [Nat.add_comm, Nat.add_mul_mod_self_right]
      rw [Nat.mod_eq_sub_mod hM, Nat.mod_eq_of_lt (by omega)]
    rw [e1, e2]
    congr 1 <;> omega

end
end Go.Proofs.YtbdanadmabemdaaDoor.Fl
