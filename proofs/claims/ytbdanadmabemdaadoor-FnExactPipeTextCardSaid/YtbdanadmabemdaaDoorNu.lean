
/-
Bounds of sums, products and quotients of floats that are not negative.
-/
import Derived.Test.YtbdanadmabemdaaDoorFl
namespace Go.Proofs.YtbdanadmabemdaaDoor.Fl
open Ieee

section
variable (f : Format)
/-- the value of a rung, in units of the least place -/
def v (r : Nat) : Nat := mg f r * 2 ^ (pl f r - f.leastPlace).toNat
theorem pl_ge (r : Nat) : f.leastPlace ≤ pl f r := by unfold pl; split <;> omega
theorem rung_v (r : Nat) : rung f (v f r) f.leastPlace = r := by
  have h := rung_scale f (mg f r) (pl f r - f.leastPlace).toNat (pl f r)
  have hp := pl_ge f r
  have e : pl f r - ((pl f r - f.leastPlace).toNat : Int) = f.leastPlace := by omega
  rw [e, rung_exact] at h
  exact h
theorem v_le {r r' : Nat} (h : r ≤ r') : v f r ≤ v f r' := by
  by_cases hv : v f r ≤ v f r'
  · exact hv
  · have := rung_mono f f.leastPlace (Nat.le_of_lt (Nat.lt_of_not_le hv))
    rw [rung_v, rung_v] at this
    have : r = r' := by omega
    rw [this]; exact Nat.le_refl _
theorem v_lt {r r' : Nat} (h : r < r') : v f r < v f r' := by
  apply Nat.lt_of_not_le; intro hv
  have := rung_mono f f.leastPlace hv
  rw [rung_v, rung_v] at this
  omega
theorem le_of_v {r r' : Nat} (h : v f r ≤ v f r') : r ≤ r' := by
  apply Nat.le_of_not_lt; intro hlt
  have := v_lt f hlt
  omega

theorem read_pos {x : Nat} (h : x < f.infRung) : f.read x = .number false (mg f x) (pl f x) := read_word f false x h
theorem read_negd {x : Nat} (h : x < f.infRung) : f.read (f.signWeight + x) = .number true (mg f x) (pl f x) := read_word f true x h

theorem signed_v (x : Nat) (base : Int) (h1 : base ≤ pl f x) (h2 : f.leastPlace ≤ base) :
    (mg f x) <<< (pl f x - base).toNat * 2 ^ (base - f.leastPlace).toNat = v f x := by
  rw [Nat.shiftLeft_eq]
  unfold v
  rw [Nat.mul_assoc, ← Nat.pow_add]
  congr 2; omega

theorem rung_at {m : Nat} {base : Int} (h : f.leastPlace ≤ base) : rung f m base = rung f (m * 2 ^ (base - f.leastPlace).toNat) f.leastPlace := by
  have := rung_scale f m (base - f.leastPlace).toNat base
  rw [← this]
  congr 1
  omega

theorem add_pos {x y : Nat} (hx : x < f.infRung) (hy : y < f.infRung) : f.add x y = some (min (rung f (v f x + v f y) f.leastPlace) f.infRung) := by
  have b1 := pl_ge f x
  have b2 := pl_ge f y
  unfold Format.add
  rw [read_pos f hx, read_pos f hy]
  simp only [Datum.sum, signed, Bool.false_eq_true, if_false, Bool.and_false, Option.map_some]
  generalize hb : min (pl f x) (pl f y) = base
  have e : ((mg f x <<< (pl f x - base).toNat : Nat) : Int) + ((mg f y <<< (pl f y - base).toNat : Nat) : Int) = ((mg f x <<< (pl f x - base).toNat + mg f y <<< (pl f y - base).toNat : Nat) : Int) := by simp
  rw [e]
  congr 1
  have hs : (if ((mg f x <<< (pl f x - base).toNat + mg f y <<< (pl f y - base).toNat : Nat) : Int) = 0 then false else decide (((mg f x <<< (pl f x - base).toNat + mg f y <<< (pl f y - base).toNat : Nat) : Int) < 0)) = false := by
    split
    · rfl
    · exact decide_eq_false (Int.not_lt.2 (Int.natCast_nonneg _))
  rw [hs, Int.natAbs_natCast]
  show f.nearest false _ base = _
  rw [nearest_rung, rung_at f (by omega), Nat.add_mul, signed_v f x base (by omega) (by omega), signed_v f y base (by omega) (by omega)]
  rfl

theorem sub_pos {x y : Nat} (hx : x < f.infRung) (hy : y ≤ x) : f.sub x y = some (min (rung f (v f x - v f y) f.leastPlace) f.infRung) := by
  have b1 := pl_ge f x
  have b2 := pl_ge f y
  have hv := v_le f hy
  unfold Format.sub
  rw [read_pos f hx, read_pos f (Nat.lt_of_le_of_lt hy hx)]
  simp only [Datum.opposite, Datum.sum, signed, Bool.false_eq_true, if_false, Bool.not_false, if_true, Bool.false_and, Option.map_some]
  generalize hb : min (pl f x) (pl f y) = base
  have s1 := signed_v f x base (by omega) (by omega)
  have s2 := signed_v f y base (by omega) (by omega)
  have hle : mg f y <<< (pl f y - base).toNat ≤ mg f x <<< (pl f x - base).toNat := by
    rw [← s1, ← s2] at hv
    exact Nat.le_of_mul_le_mul_right hv (Nat.two_pow_pos _)
  generalize mg f y <<< (pl f y - base).toNat = B at *
  generalize mg f x <<< (pl f x - base).toNat = A at *
  have e : (A : Int) + -(B : Int) = ((A - B : Nat) : Int) := by omega
  rw [e]
  congr 1
  have hs : (if ((A - B : Nat) : Int) = 0 then false else decide (((A - B : Nat) : Int) < 0)) = false := by
    split
    · rfl
    · exact decide_eq_false (Int.not_lt.2 (Int.natCast_nonneg _))
  rw [hs, Int.natAbs_natCast]
  show f.nearest false _ base = _
  rw [nearest_rung, rung_at f (by omega), Nat.sub_mul, s1, s2]
  rfl

theorem mul_pos {x y : Nat} (hx : x < f.infRung) (hy : y < f.infRung) : f.mul x y = some (min (rung f (v f x * v f y) (2 * f.leastPlace)) f.infRung) := by
  have b1 := pl_ge f x
  have b2 := pl_ge f y
  unfold Format.mul
  rw [read_pos f hx, read_pos f hy]
  simp only [Datum.product, Bool.false_xor, Option.map_some]
  congr 1
  show f.nearest false _ _ = _
  rw [nearest_rung]
  have e : v f x * v f y = mg f x * mg f y * 2 ^ ((pl f x - f.leastPlace).toNat + (pl f y - f.leastPlace).toNat) := by
    unfold v; rw [Nat.pow_add]
    simp only [Nat.mul_assoc, Nat.mul_left_comm]
  rw [e]
  have := rung_scale f (mg f x * mg f y) ((pl f x - f.leastPlace).toNat + (pl f y - f.leastPlace).toNat) (pl f x + pl f y)
  rw [← this]
  have e2 : pl f x + pl f y - (((pl f x - f.leastPlace).toNat + (pl f y - f.leastPlace).toNat : Nat) : Int) = 2 * f.leastPlace := by omega
  rw [e2]
  rfl

theorem order_pos {x y : Nat} (hx : x < f.infRung) (hy : y < f.infRung) : f.order x y = some (compare x y) := by
  have b1 := pl_ge f x
  have b2 := pl_ge f y
  unfold Format.order
  rw [read_pos f hx, read_pos f hy]
  simp only [Datum.order, signed, Bool.false_eq_true, if_false]
  generalize hb : min (pl f x) (pl f y) = base
  have s1 := signed_v f x base (by omega) (by omega)
  have s2 := signed_v f y base (by omega) (by omega)
  congr 1
  have key : ∀ {a b : Nat}, a < b ↔ v f a < v f b := fun {a b} => ⟨v_lt f, fun h => Nat.lt_of_not_le fun h2 => by have := v_le f h2; omega⟩
  generalize mg f y <<< (pl f y - base).toNat = B at *
  generalize mg f x <<< (pl f x - base).toNat = A at *
  have kab : ∀ {a b : Nat}, a < b ↔ a * 2 ^ (base - f.leastPlace).toNat < b * 2 ^ (base - f.leastPlace).toNat := fun {a b} => (Nat.mul_lt_mul_right (Nat.two_pow_pos _)).symm
  have h1 : A < B ↔ x < y := by rw [kab, s1, s2, ← key]
  have h2 : B < A ↔ y < x := by rw [kab, s1, s2, ← key]
  rcases Nat.lt_trichotomy x y with h | h | h
  · have := h1.2 h
    rw [Int.compare_eq_lt.2 (by omega), Nat.compare_eq_lt.2 h]
  · have : A = B := by omega
    subst h
    rw [this, Int.compare_eq_eq.2 rfl, Nat.compare_eq_eq.2 rfl]
  · have := h2.2 h
    rw [Int.compare_eq_gt.2 (by omega), Nat.compare_eq_gt.2 h]

theorem mg_lt (r : Nat) : mg f r < 2 * f.binade := by
  have hB : 0 < f.binade := Nat.two_pow_pos _
  have := Nat.mod_lt r hB
  unfold mg; split <;> omega
/-- a quotient that is at most c -/
theorem quo_le {x y c : Nat} (hx : x < f.infRung) (hy : y < f.infRung) (h0 : y ≠ 0) (hE : f.leastPlace ≤ 0)
    (h : v f x * 2 ^ (-f.leastPlace).toNat ≤ v f c * v f y) : ∃ r, f.div x y = some r ∧ r ≤ c := by
  have b1 := pl_ge f x
  have b2 := pl_ge f y
  have b3 := pl_ge f c
  have hm : mg f y ≠ 0 := by
    intro hz
    have : v f y = 0 := by unfold v; rw [hz, Nat.zero_mul]
    have h2 := v_lt f (Nat.pos_of_ne_zero h0)
    omega
  unfold Format.div
  rw [read_pos f hx, read_pos f hy]
  simp only [Datum.quotient, if_neg hm, Bool.false_xor, Option.map_some]
  refine ⟨_, rfl, ?_⟩
  generalize hmore : f.fractionBits + 2 + (mg f y).log2 - (mg f x).log2 = more
  show f.nearest false _ _ ≤ c
  rw [nearest_rung]
  show min _ _ ≤ c
  refine Nat.le_trans (Nat.min_le_left ..) ?_
  -- what is rounded is at most c
  generalize hq : 2 * (mg f x <<< more / mg f y) + (mg f x <<< more % mg f y != 0).toNat = Q
  have hp : 0 < mg f y := Nat.pos_of_ne_zero hm
  -- scale to a place below all
  generalize hK : pl f x - pl f y - (more : Int) - 1 = K
  have hsc : ∀ j : Nat, rung f (Q * 2 ^ j) (K - j) = rung f Q K := fun j => rung_scale f Q j K
  have hcs : ∀ j : Nat, rung f (mg f c * 2 ^ j) (pl f c - j) = c := fun j => by rw [rung_scale, rung_exact]
  let low := min K (pl f c)
  have l1 : low ≤ K := Int.min_le_left ..
  have l2 : low ≤ pl f c := Int.min_le_right ..
  have e1 := hsc (K - low).toNat
  have e2 := hcs (pl f c - low).toNat
  have e3 : K - ((K - low).toNat : Int) = low := by omega
  have e4 : pl f c - ((pl f c - low).toNat : Int) = low := by omega
  rw [e3] at e1
  rw [e4] at e2
  rw [← e1, ← e2]
  refine rung_mono f low ?_
  clear e1 e2 hsc hcs
  unfold v at h
  generalize hmx : mg f x = mx at *
  generalize hmy : mg f y = n at *
  have hmc := mg_lt f c
  generalize mg f c = mc at *
  generalize ha : (pl f x - f.leastPlace).toNat = a at *
  generalize hb : (pl f y - f.leastPlace).toNat = b at *
  generalize hcc : (pl f c - f.leastPlace).toNat = c' at *
  generalize ht : (-f.leastPlace).toNat = t at *
  have h' : mx * 2 ^ (a + t) ≤ mc * n * 2 ^ (c' + b) := by
    rw [Nat.pow_add, Nat.pow_add, ← Nat.mul_assoc]
    refine Nat.le_trans h (Nat.le_of_eq ?_)
    simp only [Nat.mul_assoc, Nat.mul_left_comm]
  clear h
  rw [Nat.shiftLeft_eq] at hq
  by_cases hz : mx = 0
  · subst hz
    simp at hq
    subst hq
    simp
  · have hD : n * 2 ^ (f.fractionBits + 1) ≤ mx * 2 ^ more := by
      have g1 : 2 ^ mx.log2 ≤ mx := Nat.log2_self_le hz
      have g2 : n < 2 ^ (n.log2 + 1) := Nat.lt_log2_self
      have g3 : n * 2 ^ (f.fractionBits + 1) ≤ 2 ^ (n.log2 + 1 + (f.fractionBits + 1)) := by
        rw [Nat.pow_add 2 (n.log2 + 1)]; exact Nat.mul_le_mul_right _ (Nat.le_of_lt g2)
      have g4 : 2 ^ (mx.log2 + more) ≤ mx * 2 ^ more := by
        rw [Nat.pow_add]; exact Nat.mul_le_mul_right _ g1
      have g5 : 2 ^ (n.log2 + 1 + (f.fractionBits + 1)) ≤ 2 ^ (mx.log2 + more) := Nat.pow_le_pow_right (by decide) (by omega)
      omega
    have h2 : mx * 2 ^ more * 2 ^ (a + t) ≤ mc * n * 2 ^ (c' + b + more) := by
      rw [Nat.pow_add 2 (c' + b), ← Nat.mul_assoc, Nat.mul_right_comm]
      exact Nat.mul_le_mul_right _ h'
    generalize mx * 2 ^ more = D at *
    by_cases hge : t + a ≤ c' + b + more
    · obtain ⟨j, hj⟩ : ∃ j, c' + b + more = j + (a + t) := ⟨c' + b + more - (a + t), by omega⟩
      have h3 : D ≤ mc * n * 2 ^ j := by
        rw [hj, Nat.pow_add 2 j, ← Nat.mul_assoc] at h2
        exact Nat.le_of_mul_le_mul_right h2 (Nat.two_pow_pos _)
      have h4 : Q ≤ 2 * (mc * 2 ^ j) := by
        have h5 : D ≤ n * (mc * 2 ^ j) := by
          refine Nat.le_trans h3 (Nat.le_of_eq ?_)
          simp only [Nat.mul_assoc, Nat.mul_left_comm]
        generalize mc * 2 ^ j = C at *
        have h6 := Nat.div_add_mod D n
        have h7 : D / n ≤ C := Nat.div_le_of_le_mul h5
        by_cases hr : D % n = 0
        · rw [hr] at hq
          simp at hq
          omega
        · have h8 : D / n < C := by
            apply Nat.lt_of_le_of_ne h7
            intro he
            rw [he] at h6
            omega
          have h9 : (D % n != 0) = true := by simpa using hr
          rw [h9] at hq
          simp at hq
          omega
      have hlow : low = K := by show min K (pl f c) = K; omega
      rw [hlow]
      have z1 : (K - K).toNat = 0 := by omega
      have z2 : (pl f c - K).toNat = j + 1 := by omega
      rw [z1, z2, Nat.pow_succ, Nat.pow_zero]
      have : mc * (2 ^ j * 2) = 2 * (mc * 2 ^ j) := by rw [← Nat.mul_assoc, Nat.mul_comm]
      omega
    · exfalso
      obtain ⟨d, hd⟩ : ∃ d, a + t = (d + 1) + (c' + b + more) := ⟨a + t - (c' + b + more) - 1, by omega⟩
      rw [hd, Nat.pow_add 2 (d + 1), ← Nat.mul_assoc] at h2
      have h3 : D * 2 ^ (d + 1) ≤ mc * n := Nat.le_of_mul_le_mul_right h2 (Nat.two_pow_pos _)
      have h4 : D * 2 ≤ D * 2 ^ (d + 1) := Nat.mul_le_mul_left _ (by have := Nat.pow_le_pow_right (n := 2) (by decide) (show 1 ≤ d + 1 by omega); simpa using this)
      have h5 : n * (2 ^ (f.fractionBits + 1) * 2) ≤ n * mc := by
        rw [← Nat.mul_assoc, Nat.mul_comm n mc]; omega
      have h6 : 2 ^ (f.fractionBits + 1) * 2 ≤ mc := Nat.le_of_mul_le_mul_left h5 hp
      have h7 : 2 * f.binade = 2 ^ (f.fractionBits + 1) := by unfold Format.binade; rw [Nat.pow_succ, Nat.mul_comm]
      omega

/-! ### as functions on floats -/
section
variable {k : FloatKind}
open Go
theorem fadd_mono {x y X Y : Nat} (hX : X < k.format.infRung) (hY : Y < k.format.infRung) (hx : x ≤ X) (hy : y ≤ Y) : fop .add k x y ≤ fop .add k X Y := by
  simp only [fop, add_pos k.format (Nat.lt_of_le_of_lt hx hX) (Nat.lt_of_le_of_lt hy hY), add_pos k.format hX hY, Option.getD_some]
  have := rung_mono k.format k.format.leastPlace (Nat.add_le_add (v_le k.format hx) (v_le k.format hy))
  omega
theorem fmul_mono {x y X Y : Nat} (hX : X < k.format.infRung) (hY : Y < k.format.infRung) (hx : x ≤ X) (hy : y ≤ Y) : fop .mul k x y ≤ fop .mul k X Y := by
  simp only [fop, mul_pos k.format (Nat.lt_of_le_of_lt hx hX) (Nat.lt_of_le_of_lt hy hY), mul_pos k.format hX hY, Option.getD_some]
  have := rung_mono k.format (2 * k.format.leastPlace) (Nat.mul_le_mul (v_le k.format hx) (v_le k.format hy))
  omega
theorem fsub_le {x y : Nat} (hx : x < k.format.infRung) (hy : y ≤ x) : fop .sub k x y ≤ x := by
  simp only [fop, sub_pos k.format hx hy, Option.getD_some]
  have := rung_mono k.format k.format.leastPlace (Nat.sub_le (v k.format x) (v k.format y))
  rw [rung_v] at this
  omega
theorem fquo_le {x y c : Nat} (hx : x < k.format.infRung) (hy : y < k.format.infRung) (h0 : y ≠ 0)
    (h : v k.format x * 2 ^ (-k.format.leastPlace).toNat ≤ v k.format c * v k.format y) : fop .quo k x y ≤ c := by
  obtain ⟨r, h1, h2⟩ := quo_le k.format hx hy h0 (by cases k <;> decide) h
  simp only [fop, h1, Option.getD_some]; exact h2
/-- a word up to infinity's is a number that is not negative, or infinity -/
theorem isNaN_pos {x : Nat} (h : x ≤ k.format.infRung) : isNaN k x = false := word_read k.format false x h
end

theorem ovf_mono {x X : Nat} (hX : X < Ieee.double.infRung) (hx : x ≤ X) (h : ovf X = false) : ovf x = false := by
  have hlt := Nat.lt_of_le_of_lt hx hX
  have hv := v_le Ieee.double hx
  unfold ovf at *
  rw [read_pos _ hX] at h
  rw [read_pos _ hlt]
  simp only at h ⊢
  have key : ∀ {m e}, (Ieee.single.read (Ieee.single.write (.number false m e))).isInfinity = false ↔ rung Ieee.single m e < Ieee.single.infRung := by
    intro m e
    show (Ieee.single.read (Ieee.single.nearest false m e)).isInfinity = false ↔ _
    rw [nearest_rung]
    constructor
    · intro h1
      apply Nat.lt_of_not_le; intro h2
      rw [Nat.min_eq_right h2] at h1
      cases h1
    · intro h1
      rw [Nat.min_eq_left (Nat.le_of_lt h1), read_word _ _ _ h1]; rfl
  rw [key] at h ⊢
  have sc : ∀ r, rung Ieee.single (mg Ieee.double r) (pl Ieee.double r) = rung Ieee.single (v Ieee.double r) Ieee.double.leastPlace := by
    intro r
    have hp := pl_ge Ieee.double r
    have := rung_scale Ieee.single (mg Ieee.double r) (pl Ieee.double r - Ieee.double.leastPlace).toNat (pl Ieee.double r)
    rw [← this]
    unfold v
    congr 1
    omega
  rw [sc] at h ⊢
  have := rung_mono Ieee.single Ieee.double.leastPlace hv
  omega

section
open Go
theorem v_pos (f : Format) {y : Nat} (h : y ≠ 0) : 0 < v f y := by
  have := v_lt f (Nat.pos_of_ne_zero h)
  omega
theorem nearest_le (f : Format) (m : Nat) (e : Int) : f.nearest false m e ≤ f.infRung := by
  rw [nearest_rung]; exact Nat.min_le_right ..
theorem fquo_inf {k : FloatKind} {x y : Nat} (hx : x < k.format.infRung) (hy : y < k.format.infRung) (h0 : y ≠ 0) : fop .quo k x y ≤ k.format.infRung := by
  have hm : mg k.format y ≠ 0 := by
    intro hz
    have := v_pos k.format h0
    unfold v at this; rw [hz, Nat.zero_mul] at this; omega
  simp only [fop, Format.div]
  rw [read_pos k.format hx, read_pos k.format hy]
  simp only [Datum.quotient, if_neg hm, Bool.false_xor, Option.map_some, Option.getD_some]
  exact nearest_le ..

theorem floatOfInt_mono {k : FloatKind} {n N : Int} (h0 : 0 ≤ n) (h : n ≤ N) : floatOfInt k n ≤ floatOfInt k N := by
  unfold floatOfInt FloatKind.nearest FloatKind.encode
  rw [decide_eq_false (by omega), decide_eq_false (by omega)]
  show k.format.nearest false _ _ ≤ k.format.nearest false _ _
  rw [nearest_rung, nearest_rung]
  have := rung_mono k.format 0 (show n.natAbs ≤ N.natAbs by omega)
  show min _ _ ≤ min _ _
  omega

theorem up_mono {x X : Nat} (hX : X < Ieee.single.infRung) (h : x ≤ X) : up x ≤ up X := by
  have hx := Nat.lt_of_le_of_lt h hX
  have n1 : isNaN .f32 x = false := word_read Ieee.single false x (Nat.le_of_lt hx)
  have n2 : isNaN .f32 X = false := word_read Ieee.single false X (Nat.le_of_lt hX)
  unfold up
  rw [n1, n2]
  simp only [Bool.false_eq_true, if_false]
  rw [read_pos _ hx, read_pos _ hX]
  show Ieee.double.nearest false _ _ ≤ Ieee.double.nearest false _ _
  rw [nearest_rung, nearest_rung]
  have sc : ∀ r, rung Ieee.double (mg Ieee.single r) (pl Ieee.single r) = rung Ieee.double (v Ieee.single r) Ieee.single.leastPlace := by
    intro r
    have hp := pl_ge Ieee.single r
    have := rung_scale Ieee.double (mg Ieee.single r) (pl Ieee.single r - Ieee.single.leastPlace).toNat (pl Ieee.single r)
    rw [← this]
    unfold v
    congr 1
    omega
  rw [sc, sc]
  have := rung_mono Ieee.double Ieee.single.leastPlace (v_le Ieee.single h)
  show min _ _ ≤ min _ _
  omega

/-- a word that is at least a positive one -/
theorem ge_of_order {k : FloatKind} {x y : Nat} (hx : x < 2 ^ k.format.width) (hy : y < k.format.infRung) (h0 : y ≠ 0)
    (h : k.format.order x y = some .gt ∨ k.format.order x y = some .eq) : y ≤ x ∧ x ≤ k.format.infRung := by
  have hlt := k.format.infRung_lt
  have two : 2 ^ k.format.width = 2 * k.format.signWeight := by
    unfold Format.width Format.signWeight
    rw [Nat.add_assoc, Nat.add_comm 1, Nat.pow_succ, Nat.mul_comm]
  have hn : isNaN k x = false := by
    cases hn : isNaN k x
    · rfl
    · rw [order_nan_left y hn] at h; simp at h
  have hm : mg k.format y ≠ 0 := by
    intro hz
    have := v_pos k.format h0
    unfold v at this; rw [hz, Nat.zero_mul] at this; omega
  by_cases c1 : x < k.format.infRung
  · rw [order_pos k.format c1 hy] at h
    refine ⟨?_, Nat.le_of_lt c1⟩
    rcases h with h | h
    · have := Nat.compare_eq_gt.1 (Option.some.inj h); omega
    · have := Nat.compare_eq_eq.1 (Option.some.inj h); omega
  · by_cases c2 : x = k.format.infRung
    · omega
    · exfalso
      -- a NaN, or negative
      by_cases c3 : x < k.format.signWeight
      · have hp : 0 < k.format.signWeight := by omega
        have hr : isNaN k x = true := by
          unfold isNaN Format.read
          have hbi : k.format.binade ≤ k.format.infRung := by cases k <;> decide
          have m1 : x % k.format.signWeight = x := Nat.mod_eq_of_lt c3
          simp only [m1]
          rw [if_neg (by omega), if_neg c1, if_neg c2]; rfl
        rw [hn] at hr; cases hr
      · obtain ⟨z, rfl⟩ : ∃ z, x = k.format.signWeight + z := ⟨x - k.format.signWeight, by omega⟩
        by_cases c4 : z < k.format.infRung
        · unfold Format.order at h
          rw [read_negd k.format c4, read_pos k.format hy] at h
          simp only [Datum.order, signed, if_true, Bool.false_eq_true, if_false] at h
          have hA : 0 < mg k.format y <<< (pl k.format y - min (pl k.format z) (pl k.format y)).toNat := by
            rw [Nat.shiftLeft_eq]; exact Nat.mul_pos (Nat.pos_of_ne_zero hm) (Nat.two_pow_pos _)
          generalize mg k.format y <<< (pl k.format y - min (pl k.format z) (pl k.format y)).toNat = A at *
          generalize mg k.format z <<< (pl k.format z - min (pl k.format z) (pl k.format y)).toNat = B at *
          have : compare (-(B : Int)) (A : Int) = .lt := Int.compare_eq_lt.2 (by omega)
          rw [this] at h
          simp at h
        · have hzl : z < k.format.signWeight := by omega
          have m1 : (k.format.signWeight + z) % k.format.signWeight = z := by rw [Nat.add_mod_left, Nat.mod_eq_of_lt hzl]
          have hbi : k.format.binade ≤ k.format.infRung := by cases k <;> decide
          by_cases c5 : z = k.format.infRung
          · have hr : k.format.read (k.format.signWeight + z) = .infinity true := by
              have m2 : ((k.format.signWeight + z) / k.format.signWeight % 2 == 1) = true := by
                rw [Nat.add_div_left _ (by omega), Nat.div_eq_of_lt hzl]; rfl
              unfold Format.read
              simp only [m1, m2]
              rw [if_neg (by omega), if_neg c4, if_pos c5]
            unfold Format.order at h
            rw [hr, read_pos k.format hy] at h
            simp [Datum.order] at h
          · have hr : isNaN k (k.format.signWeight + z) = true := by
              unfold isNaN Format.read
              simp only [m1]
              rw [if_neg (by omega), if_neg c4, if_neg c5]; rfl
            rw [hn] at hr; cases hr
/-- a word that is at least zero: it may be the negative zero -/
theorem ge_zero {k : FloatKind} {x : Nat} (hx : x < 2 ^ k.format.width)
    (h : k.format.order x 0 = some .gt ∨ k.format.order x 0 = some .eq) : x ≤ k.format.infRung ∨ x = k.format.signWeight := by
  have hlt := k.format.infRung_lt
  have two : 2 ^ k.format.width = 2 * k.format.signWeight := by
    unfold Format.width Format.signWeight
    rw [Nat.add_assoc, Nat.add_comm 1, Nat.pow_succ, Nat.mul_comm]
  have hn : isNaN k x = false := by
    cases hn : isNaN k x
    · rfl
    · rw [order_nan_left 0 hn] at h; simp at h
  have hbi : k.format.binade ≤ k.format.infRung := by cases k <;> decide
  have hB : 0 < k.format.binade := Nat.two_pow_pos _
  by_cases c1 : x ≤ k.format.infRung
  · exact Or.inl c1
  · right
    by_cases c3 : x < k.format.signWeight
    · exfalso
      have hr : isNaN k x = true := by
        unfold isNaN Format.read
        have m1 : x % k.format.signWeight = x := Nat.mod_eq_of_lt c3
        simp only [m1]
        rw [if_neg (by omega), if_neg (by omega), if_neg (by omega)]; rfl
      rw [hn] at hr; cases hr
    · obtain ⟨z, rfl⟩ : ∃ z, x = k.format.signWeight + z := ⟨x - k.format.signWeight, by omega⟩
      have hzl : z < k.format.signWeight := by omega
      by_cases c4 : z < k.format.infRung
      · by_cases hz : z = 0
        · omega
        · exfalso
          have hm : mg k.format z ≠ 0 := by
            intro hz'
            have := v_pos k.format hz
            unfold v at this; rw [hz', Nat.zero_mul] at this; omega
          have hm0 : mg k.format 0 = 0 := by unfold mg; rw [if_pos hB]
          unfold Format.order at h
          rw [read_negd k.format c4, read_pos k.format (by omega)] at h
          simp only [Datum.order, signed, if_true, Bool.false_eq_true, if_false, hm0] at h
          have hA : 0 < mg k.format z <<< (pl k.format z - min (pl k.format z) (pl k.format 0)).toNat := by
            rw [Nat.shiftLeft_eq]; exact Nat.mul_pos (Nat.pos_of_ne_zero hm) (Nat.two_pow_pos _)
          rw [Nat.zero_shiftLeft] at h
          generalize mg k.format z <<< (pl k.format z - min (pl k.format z) (pl k.format 0)).toNat = B at *
          have : compare (-(B : Int)) ((0 : Nat) : Int) = .lt := Int.compare_eq_lt.2 (by omega)
          rw [this] at h
          simp at h
      · exfalso
        have m1 : (k.format.signWeight + z) % k.format.signWeight = z := by rw [Nat.add_mod_left, Nat.mod_eq_of_lt hzl]
        by_cases c5 : z = k.format.infRung
        · have hr : k.format.read (k.format.signWeight + z) = .infinity true := by
            have m2 : ((k.format.signWeight + z) / k.format.signWeight % 2 == 1) = true := by
              rw [Nat.add_div_left _ (by omega), Nat.div_eq_of_lt hzl]; rfl
            unfold Format.read
            simp only [m1, m2]
            rw [if_neg (by omega), if_neg c4, if_pos c5]
          unfold Format.order at h
          rw [hr, read_pos k.format (by omega)] at h
          simp [Datum.order] at h
        · have hr : isNaN k (k.format.signWeight + z) = true := by
            unfold isNaN Format.read
            simp only [m1]
            rw [if_neg (by omega), if_neg c4, if_neg c5]; rfl
          rw [hn] at hr; cases hr
theorem le_of_order {k : FloatKind} {x y : Nat} (hx : x ≤ k.format.infRung) (hy : y < k.format.infRung)
    (h : k.format.order x y = some .lt ∨ k.format.order x y = some .eq) : x ≤ y := by
  by_cases c1 : x < k.format.infRung
  · rw [order_pos k.format c1 hy] at h
    rcases h with h | h
    · have := Nat.compare_eq_lt.1 (Option.some.inj h); omega
    · have := Nat.compare_eq_eq.1 (Option.some.inj h); omega
  · exfalso
    have hx' : x = k.format.infRung := by omega
    have hr : k.format.read x = .infinity false := by
      subst hx'
      cases k <;> decide
    unfold Format.order at h
    rw [hr, read_pos k.format hy] at h
    simp [Datum.order] at h
theorem not_gt {k : FloatKind} {x y : Nat} (hx : x ≤ k.format.infRung) (hy : y < k.format.infRung)
    (h : (k.format.order x y == some .gt) = false) : x ≤ y := by
  apply le_of_order hx hy
  have h1 := isNaN_pos hx
  have h2 : isNaN k y = false := isNaN_pos (Nat.le_of_lt hy)
  cases ho : k.format.order x y with
  | none =>
    exfalso
    unfold Format.order at ho
    unfold isNaN at h1 h2
    generalize k.format.read x = a at *
    generalize k.format.read y = b at *
    cases a <;> cases b <;> simp [Datum.order, Datum.isNaN] at *
  | some o =>
    rw [ho] at h
    cases o with
    | gt => exact absurd h (by decide)
    | lt => left; rfl
    | eq => right; rfl
end
end
end Go.Proofs.YtbdanadmabemdaaDoor.Fl
