
/-
The numbers of a tuning that is turned: none is a not-a-number.
-/
import Derived.Test.YtdhiihmfgmempaaTv
namespace Go.Proofs.Ytdhiihmfgmempaa
open Go Go.RowKit Fl Ieee
/-- a number, neither infinite nor a not-a-number -/
def isNum (x : Nat) : Prop := ∃ s m e, Ieee.single.read x = .number s m e
theorem isNum_nan {x : Nat} (h : isNum x) : isNaN .f32 x = false := by
  obtain ⟨s, m, e, h⟩ := h
  unfold isNaN
  rw [show FloatKind.f32.format = Ieee.single from rfl, h]; rfl
theorem num_mid {x y z : Nat} (h1 : ltB x y = true) (h2 : gtB x z = true) : isNum x := by
  unfold ltB Format.order at h1
  unfold gtB Format.order at h2
  rw [show FloatKind.f32.format = Ieee.single from rfl] at h1 h2
  unfold isNum
  generalize Ieee.single.read x = a at *
  generalize Ieee.single.read y = b at *
  generalize Ieee.single.read z = c at *
  cases a with
  | number s m e => exact ⟨s, m, e, rfl⟩
  | nan s t => simp [Datum.order] at h1
  | infinity s =>
    exfalso
    cases s
    · cases b with
      | nan s t => simp [Datum.order] at h1
      | number s m e => simp [Datum.order] at h1
      | infinity t => cases t <;> simp [Datum.order] at h1 <;> exact absurd h1 (by decide)
    · cases c with
      | nan s t => simp [Datum.order] at h2
      | number s m e => simp [Datum.order] at h2
      | infinity t => cases t <;> simp [Datum.order] at h2 <;> exact absurd h2 (by decide)
theorem num_zero {x : Nat} (h : sameB x 0 = true) : isNum x := by
  unfold sameB at h
  have h0 : can .f32 0 = 0 := by decide
  rw [h0, beq_iff_eq] at h
  have h1 : can .f32 x = 0 := by omega
  unfold can at h1
  split at h1
  · exact absurd h1 (by decide)
  · subst h1; exact ⟨_, _, _, (by decide : Ieee.single.read 0 = .number false 0 (-149))⟩
theorem num_ins {x lo hi : Nat} (hl : isNum lo) (hh : isNum hi) (h : insB x lo hi = true) : isNum x := by
  unfold insB Format.order at h
  rw [show FloatKind.f32.format = Ieee.single from rfl] at h
  obtain ⟨s1, m1, e1, hl⟩ := hl
  obtain ⟨s2, m2, e2, hh⟩ := hh
  rw [hl, hh] at h
  unfold isNum
  generalize Ieee.single.read x = a at *
  cases a with
  | number s m e => exact ⟨s, m, e, rfl⟩
  | nan s t => simp [Datum.order] at h
  | infinity s => cases s <;> simp [Datum.order] at h
theorem add_num {x y : Nat} (hx : isNum x) (hy : isNum y) : isNaN .f32 (fop .add .f32 x y) = false := by
  obtain ⟨s1, m1, e1, hx⟩ := hx
  obtain ⟨s2, m2, e2, hy⟩ := hy
  have : FloatKind.f32.format.add x y = some (Ieee.single.write (.number (if signed s1 m1 (e1 - min e1 e2).toNat + signed s2 m2 (e2 - min e1 e2).toNat = 0 then s1 && s2 else decide (signed s1 m1 (e1 - min e1 e2).toNat + signed s2 m2 (e2 - min e1 e2).toNat < 0)) (signed s1 m1 (e1 - min e1 e2).toNat + signed s2 m2 (e2 - min e1 e2).toNat).natAbs (min e1 e2))) := by
    unfold Format.add
    rw [show FloatKind.f32.format = Ieee.single from rfl, hx, hy]; rfl
  simp only [fop, this, Option.getD_some]
  exact write_number _ _ _ _
theorem sub_num {x y : Nat} (hx : isNaN .f32 x = false) (hy : isNum y) : isNaN .f32 (fop .sub .f32 x y) = false := by
  obtain ⟨s2, m2, e2, hy⟩ := hy
  unfold isNaN at hx
  rw [show FloatKind.f32.format = Ieee.single from rfl] at hx
  have key : ∃ d, (Ieee.single.read x).sum (Ieee.single.read y).opposite = some d := by
    rw [hy]
    cases hr : Ieee.single.read x with
    | nan s t => rw [hr] at hx; cases hx
    | infinity s => exact ⟨_, rfl⟩
    | number s m e => exact ⟨_, rfl⟩
  obtain ⟨d, hd⟩ := key
  have : FloatKind.f32.format.sub x y = some (Ieee.single.write d) := by
    unfold Format.sub
    rw [show FloatKind.f32.format = Ieee.single from rfl, hd]; rfl
  simp only [fop, this, Option.getD_some]
  exact write_not _ d (sum_not hd)
theorem deg_at {xs : List Nat} {oc : Nat} : ∀ n, degTo xs oc n = true → ∀ i, i < n → degB xs oc i = true
  | 0, _, i, h => absurd h (by omega)
  | n + 1, hd, i, h => by
    rw [degTo, Bool.and_eq_true] at hd
    by_cases e : i = n
    · subst e; exact hd.2
    · exact deg_at n hd.1 i (by omega)
theorem tun_num {b oc n : Nat} {xs : List Nat} (h : tunB b oc xs n = true) : isNum b ∧ isNum oc ∧ ∀ i, i < n → isNum (nth xs i) := by
  unfold tunB at h
  simp only [Bool.and_eq_true] at h
  obtain ⟨⟨⟨⟨h1, h2⟩, h3⟩, h4⟩, h5⟩ := h
  refine ⟨num_ins ⟨_, _, _, (by decide : Ieee.single.read 1065353216 = .number false 8388608 (-23))⟩ ⟨_, _, _, (by decide : Ieee.single.read 1184645120 = .number false 10240000 (-9))⟩ h1, num_ins ⟨_, _, _, (by decide : Ieee.single.read 1065353216 = .number false 8388608 (-23))⟩ ⟨_, _, _, (by decide : Ieee.single.read 1167458304 = .number false 9830400 (-11))⟩ h2, fun i hi => ?_⟩
  have hd := deg_at n h5 i hi
  unfold degB at hd
  rw [Bool.and_eq_true] at hd
  by_cases h0 : i = 0
  · subst h0; exact num_zero h4
  · rw [decide_eq_false h0, Bool.false_or] at hd
    exact num_mid hd.1 hd.2
/-- the degrees of a turned tuning -/
def tvD (xs : List Nat) (oc n d i : Nat) : Nat := if d + i < n then fop .sub .f32 (nth xs (d + i)) (nth xs d) else fop .sub .f32 (fop .add .f32 (nth xs (d + i - n)) oc) (nth xs d)
def tvP (xs : List Nat) (oc n d k : Nat) : List Nat := (List.range k).map (tvD xs oc n d)
theorem tvP_succ (xs : List Nat) (oc n d k : Nat) : tvP xs oc n d (k + 1) = tvP xs oc n d k ++ [tvD xs oc n d k] := by unfold tvP; rw [List.range_succ, List.map_append]; rfl
theorem tvD_nan {xs : List Nat} {oc n d i b : Nat} (h : tunB b oc xs n = true) (hd : d < n) (hi : i < n) : isNaN .f32 (tvD xs oc n d i) = false := by
  obtain ⟨_, ho, hx⟩ := tun_num h
  unfold tvD
  split
  · exact sub_num (isNum_nan (hx _ (by omega))) (hx _ hd)
  · exact sub_num (add_num (hx _ (by omega)) ho) (hx _ hd)
end Go.Proofs.Ytdhiihmfgmempaa
