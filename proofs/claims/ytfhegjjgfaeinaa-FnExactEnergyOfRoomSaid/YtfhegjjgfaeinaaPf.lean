
/-
Sums of squares: plain arithmetic of float64s.
-/
import Derived.Test.YtfhegjjgfaeinaaNu
import Derived.Test.YtfhegjjgfaeinaaDa
namespace Go.Proofs.Ytfhegjjgfaeinaa
open Go Go.RowKit Fl
theorem inf_read : Ieee.double.read 9218868437227405312 = .infinity false := by decide
theorem inf_write : Ieee.double.write (.infinity false) = 9218868437227405312 := by decide
/-- what is read of a number that is not below 0 -/
theorem nn_read {x : Nat} (h : x ≤ 9218868437227405312) : (∃ m e, Ieee.double.read x = .number false m e) ∨ Ieee.double.read x = .infinity false := by
  by_cases e : x = 9218868437227405312
  · subst e; exact .inr inf_read
  · have hf : Ieee.double.infRung = 9218868437227405312 := fmt64.2.2.2.1
    exact .inl ⟨_, _, read_pos Ieee.double (by rw [hf]; omega)⟩
theorem nn_write (m : Nat) (e : Int) : Ieee.double.write (.number false m e) ≤ 9218868437227405312 := by
  have := nearest_le Ieee.double m e
  rw [fmt64.2.2.2.1] at this
  exact this
def nnD (d : Ieee.Datum) : Prop := (∃ m e, d = .number false m e) ∨ d = .infinity false
theorem nnD_write {d : Ieee.Datum} (h : nnD d) : Ieee.double.write d ≤ 9218868437227405312 := by
  rcases h with ⟨m, e, rfl⟩ | rfl
  · exact nn_write m e
  · exact Nat.le_of_eq inf_write
theorem sum_nn {a b : Ieee.Datum} (ha : nnD a) (hb : nnD b) : ∃ d, a.sum b = some d ∧ nnD d := by
  rcases ha with ⟨m, e, rfl⟩ | rfl <;> rcases hb with ⟨n, i, rfl⟩ | rfl
  · refine ⟨.number false ((m <<< (e - min e i).toNat : Nat) + (n <<< (i - min e i).toNat : Nat) : Int).natAbs (min e i), ?_, .inl ⟨_, _, rfl⟩⟩
    unfold Ieee.Datum.sum
    simp only [Ieee.signed, Bool.false_eq_true, if_false, Bool.and_self]
    generalize m <<< (e - min e i).toNat = A
    generalize n <<< (i - min e i).toNat = C
    have : decide ((A : Int) + (C : Int) < 0) = false := decide_eq_false (by omega)
    rw [this, ite_self]
  · exact ⟨_, rfl, .inr rfl⟩
  · exact ⟨_, rfl, .inr rfl⟩
  · exact ⟨_, rfl, .inr rfl⟩
theorem nn_add {x y : Nat} (hx : x ≤ 9218868437227405312) (hy : y ≤ 9218868437227405312) : fop .add .f64 x y ≤ 9218868437227405312 := by
  obtain ⟨d, hd, hn⟩ := sum_nn (nn_read hx) (nn_read hy)
  have e : Ieee.double.add x y = some (Ieee.double.write d) := by unfold Ieee.Format.add; rw [hd]; rfl
  have e2 : fop .add .f64 x y = Ieee.double.write d := by
    show (Ieee.double.add x y).getD _ = _
    rw [e]; rfl
  rw [e2]
  exact nnD_write hn
/-- the square of a sample -/
def sqF (x : Nat) : Nat := fop .mul .f64 (up x) (up x)
theorem fin_nan {x : Nat} (h : finB x = true) : isNaN .f32 x = false := by
  cases hn : isNaN .f32 x
  · rfl
  · unfold finB at h
    rw [fop_nan_left x rfl hn, order_nan_left 0 (isNaN_qnan .f32)] at h
    cases h
theorem sq_le {x : Nat} (h : finB x = true) : sqF x ≤ 9218868437227405312 := by
  have hn : isNaN .f64 (up x) = false := by rw [isNaN_up]; exact fin_nan h
  unfold isNaN at hn
  show (((Ieee.double.read (up x)).product (Ieee.double.read (up x))).map Ieee.double.write).getD (qnan .f64) ≤ _
  have hn' : (Ieee.double.read (up x)).isNaN = false := hn
  cases hr : Ieee.double.read (up x) with
  | nan s t => rw [hr] at hn'; cases hn'
  | infinity s =>
    simp only [Ieee.Datum.product, Option.map_some, Option.getD_some, Bool.xor_self]
    rw [inf_write]; exact Nat.le_refl _
  | number s m e =>
    simp only [Ieee.Datum.product, Option.map_some, Option.getD_some, Bool.xor_self]
    exact nn_write _ _
theorem nn_zero_add {x : Nat} (hx : x ≤ 9218868437227405312) : fop .add .f64 0 x = x := by
  have hf : FloatKind.f64.format.infRung = 9218868437227405312 := fmt64.2.2.2.1
  by_cases e : x = 9218868437227405312
  · subst e; decide
  · have h := add_pos FloatKind.f64.format (x := 0) (y := x) (by rw [hf]; omega) (by rw [hf]; omega)
    have hv : v FloatKind.f64.format 0 = 0 := by decide
    show (FloatKind.f64.format.add 0 x).getD _ = x
    rw [h, hv, Nat.zero_add, rung_v, Nat.min_eq_left (by rw [hf]; omega)]
    rfl
theorem nn_nan {x : Nat} (hx : x ≤ 9218868437227405312) : isNaN .f64 x = false := isNaN_pos (k := .f64) (by rw [show FloatKind.f64.format.infRung = 9218868437227405312 from fmt64.2.2.2.1]; exact hx)
/-- the sum of the first squares -/
def enF (l : List Nat) : Nat → Nat
  | 0 => 0
  | k + 1 => fop .add .f64 (enF l k) (sqF (nth l k))
theorem enF_le {l : List Nat} {n : Nat} (h : ∀ i, i < n → finB (nth l i) = true) : ∀ k, k ≤ n → enF l k ≤ 9218868437227405312
  | 0, _ => by show 0 ≤ _; omega
  | k + 1, hk => by
    rw [enF]
    exact nn_add (enF_le h k (by omega)) (sq_le (h k (by omega)))
theorem enF_one {l : List Nat} (h : finB (nth l 0) = true) : enF l 1 = sqF (nth l 0) := by
  rw [enF, enF, nn_zero_add (sq_le h)]
theorem nv_le {x : Nat} (t : Nat) (hx : x ≤ 9218868437227405312) : nv .f64 x t = x := nv_of t (nn_nan hx)
theorem dn_le {x : Nat} (hx : x ≤ 9218868437227405312) : dn .f64 x = 0 := by unfold dn; rw [nn_nan hx]; rfl
theorem up_fin {x : Nat} (h : finB x = true) : isNaN .f64 (up x) = false := by rw [isNaN_up]; exact fin_nan h
end Go.Proofs.Ytfhegjjgfaeinaa
