
/-
Floats of the walk: a result that may be a not-a-number is written 'nv k F t': F, or, where F is a not-a-number, one that the tape has chosen.
-/
import Derived.WalkKit
import Derived.WalkLawsBesides
import Derived.ProofKit
import Derived.Deep.QuietTactic
import Derived.Lib.Hide
import Derived.BigQuiet
import Derived.Laws.FloatBits
import Derived.Test.YtbdanadmabemdaaDoorIe
namespace Go.Proofs.YtbdanadmabemdaaDoor.Fl
open Go

/-- a not-a-number -/
def isNaN (k : FloatKind) (b : Nat) : Bool := (k.format.read b).isNaN

/-- one fixed not-a-number -/
def qnan : FloatKind → Nat
  | .f32 => 2143289344
  | .f64 => 9221120237041090560

/-- the not-a-number of a tape's answer -/
def tnan (k : FloatKind) (t : Nat) : Nat := (Question.nanBits k 0 0).cut t

/-- 'b', or where it is a not-a-number: itself (0), or one of the tape's -/
def nv (k : FloatKind) (b : Nat) : Nat → Nat
  | 0 => b
  | t + 1 => if isNaN k b then tnan k t else b

theorem cut_nanBits (k : FloatKind) (x y t : Nat) : (Question.nanBits k x y).cut t = tnan k t := by
  cases k <;> rfl
theorem cut_nanConv (k : FloatKind) (x t : Nat) : (Question.nanConv k x).cut t = tnan k t := by
  cases k <;> rfl

theorem read_nan32 (b : Nat) (h1 : 2139095040 < b % 2147483648) : (Ieee.single.read b).isNaN = true := by
  unfold Ieee.Format.read
  have e1 : Ieee.single.signWeight = 2147483648 := by decide
  have e2 : Ieee.single.binade = 8388608 := by decide
  have e3 : Ieee.single.infRung = 2139095040 := by decide
  simp only [e1, e2, e3]
  rw [if_neg (by omega), if_neg (by omega), if_neg (by omega)]; rfl

theorem read_nan64 (b : Nat) (h1 : 9218868437227405312 < b % 9223372036854775808) : (Ieee.double.read b).isNaN = true := by
  unfold Ieee.Format.read
  have e1 : Ieee.double.signWeight = 9223372036854775808 := by decide
  have e2 : Ieee.double.binade = 4503599627370496 := by decide
  have e3 : Ieee.double.infRung = 9218868437227405312 := by decide
  simp only [e1, e2, e3]
  rw [if_neg (by omega), if_neg (by omega), if_neg (by omega)]; rfl

theorem isNaN_tnan (k : FloatKind) (t : Nat) : isNaN k (tnan k t) = true := by
  cases k
  · exact read_nan32 _ (by simp only [tnan, Question.cut]; rw [Nat.add_assoc, Nat.add_assoc, Nat.add_comm, Nat.add_mul_mod_self_right, Nat.mod_eq_of_lt (by omega)]; omega)
  · exact read_nan64 _ (by simp only [tnan, Question.cut]; rw [Nat.add_assoc, Nat.add_assoc, Nat.add_comm, Nat.add_mul_mod_self_right, Nat.mod_eq_of_lt (by omega)]; omega)

theorem isNaN_qnan (k : FloatKind) : isNaN k (qnan k) = true := by
  cases k
  · exact read_nan32 _ (by decide)
  · exact read_nan64 _ (by decide)

theorem isNaN_nv (k : FloatKind) (b t : Nat) : isNaN k (nv k b t) = isNaN k b := by
  cases t with
  | zero => rfl
  | succ t =>
    simp only [nv]; split
    · rename_i h; rw [isNaN_tnan, h]
    · rfl

theorem nv_of {k : FloatKind} {b : Nat} (t : Nat) (h : isNaN k b = false) : nv k b t = b := by
  cases t with
  | zero => rfl
  | succ t => simp only [nv, h]; rfl

theorem nv_nan {k : FloatKind} {b : Nat} (t : Nat) (h : isNaN k b = true) : nv k b (t + 1) = tnan k t := by simp only [nv, h]; rfl

/-- a value with every not-a-number made one -/
def can (k : FloatKind) (b : Nat) : Nat := if isNaN k b then qnan k else b

theorem can_nv (k : FloatKind) (b t : Nat) : can k (nv k b t) = can k b := by
  unfold can; rw [isNaN_nv]; split
  · rfl
  · rename_i h; exact nv_of t (by simpa using h)

def sel (t u : Nat) : Nat := if u = 0 then t else u
theorem nv_nv (k : FloatKind) (b t u : Nat) : nv k (nv k b t) u = nv k b (sel t u) := by
  unfold sel
  cases u with
  | zero => rfl
  | succ u =>
    simp only [Nat.succ_ne_zero, if_false]
    by_cases h : isNaN k b = true
    · rw [nv_nan u h, nv_nan u (by rw [isNaN_nv, h])]
    · have h' : isNaN k b = false := by simpa using h
      simp only [fun t => nv_of t h']

theorem word_read (f : Ieee.Format) (neg : Bool) (r : Nat) (h : r ≤ f.infRung) : (f.read (f.word neg r)).isNaN = false := by
  have hlt := f.infRung_lt
  have hr : f.word neg r % f.signWeight = r := by
    unfold Ieee.Format.word
    cases neg
    · simp only [Bool.false_eq_true, if_false]; exact Nat.mod_eq_of_lt (by omega)
    · simp only [if_true]; rw [Nat.add_mod_left]; exact Nat.mod_eq_of_lt (by omega)
  unfold Ieee.Format.read
  simp only [hr]
  split
  · rfl
  · split
    · rfl
    · rw [if_pos (by omega)]; rfl

theorem write_number (f : Ieee.Format) (s : Bool) (m : Nat) (e : Int) : (f.read (f.write (.number s m e))).isNaN = false := by
  show (f.read (f.nearest s m e)).isNaN = false
  unfold Ieee.Format.nearest
  dsimp only
  split
  · exact word_read f s 0 (Nat.zero_le _)
  · exact word_read f s _ (Nat.min_le_right ..)
theorem write_infinity (f : Ieee.Format) (s : Bool) : (f.read (f.write (.infinity s))).isNaN = false :=
  word_read f s _ (Nat.le_refl _)

theorem write_not (f : Ieee.Format) (d : Ieee.Datum) (h : d.isNaN = false) : (f.read (f.write d)).isNaN = false := by
  cases d with
  | number s m e => exact write_number f s m e
  | infinity s => exact write_infinity f s
  | nan s t => cases h

/-- the four operations, a not-a-number made one -/
def fop (op : BinOp) (k : FloatKind) (x y : Nat) : Nat :=
  match op with
  | .add => (k.format.add x y).getD (qnan k)
  | .sub => (k.format.sub x y).getD (qnan k)
  | .mul => (k.format.mul x y).getD (qnan k)
  | .quo => (k.format.div x y).getD (qnan k)
  | _ => 0

open Ieee in
theorem sum_not {a b d : Datum} (h : a.sum b = some d) : d.isNaN = false := by
  cases a <;> cases b <;> simp only [Datum.sum] at h <;> first | (cases h; done) | (cases h; rfl) | (split at h <;> first | (cases h; done) | (cases h; rfl))
open Ieee in
theorem product_not {a b d : Datum} (h : a.product b = some d) : d.isNaN = false := by
  cases a <;> cases b <;> simp only [Datum.product] at h <;> first | (cases h; done) | (cases h; rfl) | (split at h <;> first | (cases h; done) | (cases h; rfl))
open Ieee in
theorem quotient_not {n : Nat} {a b d : Datum} (h : a.quotient n b = some d) : d.isNaN = false := by
  cases a <;> cases b <;> simp only [Datum.quotient] at h <;> first | (cases h; done) | (cases h; rfl) | (split at h <;> first | (cases h; done) | (cases h; rfl) | (split at h <;> first | (cases h; done) | (cases h; rfl)))

theorem map_write_not (f : Ieee.Format) {o : Option Ieee.Datum} (ho : ∀ d, o = some d → d.isNaN = false) {r : Nat} (h : o.map f.write = some r) : (f.read r).isNaN = false := by
  cases o with
  | none => cases h
  | some d => cases h; exact write_not f d (ho d rfl)

theorem add_not {k : FloatKind} {x y r : Nat} (h : k.format.add x y = some r) : isNaN k r = false := map_write_not _ (fun _ h => sum_not h) h
theorem sub_not {k : FloatKind} {x y r : Nat} (h : k.format.sub x y = some r) : isNaN k r = false := map_write_not _ (fun _ h => sum_not h) h
theorem mul_not {k : FloatKind} {x y r : Nat} (h : k.format.mul x y = some r) : isNaN k r = false := map_write_not _ (fun _ h => product_not h) h
theorem div_not {k : FloatKind} {x y r : Nat} (h : k.format.div x y = some r) : isNaN k r = false := map_write_not _ (fun _ h => quotient_not h) h

/-- the tape's answer, and how many draws -/
def ta (w : World) (k : FloatKind) (x y : Nat) : Nat := w.tape w.drawn (.nanBits k x y) + 1
def tc (w : World) (k : FloatKind) (x : Nat) : Nat := w.tape w.drawn (.nanConv k x) + 1
def dn (k : FloatKind) (b : Nat) : Nat := if isNaN k b then 1 else 0

@[go_sem] theorem run_add (P : Program) (w : World) (t : TypeId) (k : FloatKind) (x y : Nat) : (binOp .add t (.float k x) (.float k y)).run P w = .ok (.float k (nv k (fop .add k x y) (ta w k x y))) (w.drewN (dn k (fop .add k x y))) := by
  cases ho : k.format.add x y with
  | some r =>
    have h := add_not ho
    simp only [fop, ho, Option.getD_some, nv_of _ h, dn, h]
    simp [binOp, Op.floatArith, ho]
    rfl
  | none =>
    simp only [fop, ho, Option.getD_none, ta, nv_nan _ (isNaN_qnan k), dn, isNaN_qnan, if_true]
    simp [binOp, Op.floatArith, ho, Question.forced, cut_nanBits]
    rfl
@[go_sem] theorem run_sub (P : Program) (w : World) (t : TypeId) (k : FloatKind) (x y : Nat) : (binOp .sub t (.float k x) (.float k y)).run P w = .ok (.float k (nv k (fop .sub k x y) (ta w k x y))) (w.drewN (dn k (fop .sub k x y))) := by
  cases ho : k.format.sub x y with
  | some r =>
    have h := sub_not ho
    simp only [fop, ho, Option.getD_some, nv_of _ h, dn, h]
    simp [binOp, Op.floatArith, ho]
    rfl
  | none =>
    simp only [fop, ho, Option.getD_none, ta, nv_nan _ (isNaN_qnan k), dn, isNaN_qnan, if_true]
    simp [binOp, Op.floatArith, ho, Question.forced, cut_nanBits]
    rfl
@[go_sem] theorem run_mul (P : Program) (w : World) (t : TypeId) (k : FloatKind) (x y : Nat) : (binOp .mul t (.float k x) (.float k y)).run P w = .ok (.float k (nv k (fop .mul k x y) (ta w k x y))) (w.drewN (dn k (fop .mul k x y))) := by
  cases ho : k.format.mul x y with
  | some r =>
    have h := mul_not ho
    simp only [fop, ho, Option.getD_some, nv_of _ h, dn, h]
    simp [binOp, Op.floatArith, ho]
    rfl
  | none =>
    simp only [fop, ho, Option.getD_none, ta, nv_nan _ (isNaN_qnan k), dn, isNaN_qnan, if_true]
    simp [binOp, Op.floatArith, ho, Question.forced, cut_nanBits]
    rfl
@[go_sem] theorem run_quo (P : Program) (w : World) (t : TypeId) (k : FloatKind) (x y : Nat) : (binOp .quo t (.float k x) (.float k y)).run P w = .ok (.float k (nv k (fop .quo k x y) (ta w k x y))) (w.drewN (dn k (fop .quo k x y))) := by
  cases ho : k.format.div x y with
  | some r =>
    have h := div_not ho
    simp only [fop, ho, Option.getD_some, nv_of _ h, dn, h]
    simp [binOp, Op.floatArith, ho]
    rfl
  | none =>
    simp only [fop, ho, Option.getD_none, ta, nv_nan _ (isNaN_qnan k), dn, isNaN_qnan, if_true]
    simp [binOp, Op.floatArith, ho, Question.forced, cut_nanBits]
    rfl

/-! ### what an operation makes of a not-a-number -/
theorem read_isNaN {k : FloatKind} {x : Nat} (h : isNaN k x = true) : ∃ s t, k.format.read x = .nan s t := by
  unfold isNaN at h
  generalize k.format.read x = d at h
  cases d with
  | nan s t => exact ⟨s, t, rfl⟩
  | number s m e => cases h
  | infinity s => cases h

def four : BinOp → Bool
  | .add | .sub | .mul | .quo => true
  | _ => false

open Ieee in
theorem fop_nan_left {op : BinOp} {k : FloatKind} {x : Nat} (y : Nat) (ho : four op = true) (h : isNaN k x = true) : fop op k x y = qnan k := by
  obtain ⟨s, t, hr⟩ := read_isNaN h
  cases op <;> first | (cases ho; done) | skip
  all_goals simp only [fop, Format.add, Format.sub, Format.mul, Format.div, hr]
  · generalize k.format.read y = d; cases d <;> rfl
  · generalize (k.format.read y).opposite = d; cases d <;> rfl
  · generalize k.format.read y = d; cases d <;> rfl
  · generalize k.format.read y = d; cases d <;> rfl
open Ieee in
theorem fop_nan_right {op : BinOp} {k : FloatKind} (x : Nat) {y : Nat} (ho : four op = true) (h : isNaN k y = true) : fop op k x y = qnan k := by
  obtain ⟨s, t, hr⟩ := read_isNaN h
  cases op <;> first | (cases ho; done) | skip
  all_goals simp only [fop, Format.add, Format.sub, Format.mul, Format.div, hr, Datum.opposite]
  all_goals (generalize k.format.read x = d; cases d <;> rfl)
theorem fop_other {op : BinOp} (k : FloatKind) (x y : Nat) (ho : four op = false) : fop op k x y = 0 := by
  cases op <;> first | rfl | (cases ho; done)

theorem fop_nvl (op : BinOp) (k : FloatKind) (x y t : Nat) : fop op k (nv k x t) y = fop op k x y := by
  cases ho : four op with
  | false => rw [fop_other _ _ _ ho, fop_other _ _ _ ho]
  | true =>
    by_cases h : isNaN k x = true
    · rw [fop_nan_left _ ho h, fop_nan_left _ ho (by rw [isNaN_nv, h])]
    · rw [nv_of _ (by simpa using h)]
theorem fop_nvr (op : BinOp) (k : FloatKind) (x y t : Nat) : fop op k x (nv k y t) = fop op k x y := by
  cases ho : four op with
  | false => rw [fop_other _ _ _ ho, fop_other _ _ _ ho]
  | true =>
    by_cases h : isNaN k y = true
    · rw [fop_nan_right _ ho h, fop_nan_right _ ho (by rw [isNaN_nv, h])]
    · rw [nv_of _ (by simpa using h)]

open Ieee in
theorem order_nan_left {k : FloatKind} {x : Nat} (y : Nat) (h : isNaN k x = true) : k.format.order x y = none := by
  obtain ⟨s, t, hr⟩ := read_isNaN h
  simp only [Format.order, hr]
  generalize k.format.read y = d; cases d <;> rfl
open Ieee in
theorem order_nan_right {k : FloatKind} (x : Nat) {y : Nat} (h : isNaN k y = true) : k.format.order x y = none := by
  obtain ⟨s, t, hr⟩ := read_isNaN h
  simp only [Format.order, hr]
  generalize k.format.read x = d; cases d <;> rfl
theorem order_nvl (k : FloatKind) (x y t : Nat) : k.format.order (nv k x t) y = k.format.order x y := by
  by_cases h : isNaN k x = true
  · rw [order_nan_left _ h, order_nan_left _ (by rw [isNaN_nv, h])]
  · rw [nv_of _ (by simpa using h)]
theorem order_nvr (k : FloatKind) (x y t : Nat) : k.format.order x (nv k y t) = k.format.order x y := by
  by_cases h : isNaN k y = true
  · rw [order_nan_right _ h, order_nan_right _ (by rw [isNaN_nv, h])]
  · rw [nv_of _ (by simpa using h)]
theorem dn_nv (k : FloatKind) (x t : Nat) : dn k (nv k x t) = dn k x := by unfold dn; rw [isNaN_nv]

/-! ### the sign turned -/
theorem xor_top (n b : Nat) : (b ^^^ 2 ^ n) % 2 ^ n = b % 2 ^ n ∧ (b ^^^ 2 ^ n) / 2 ^ n = b / 2 ^ n ^^^ 1 := by
  constructor
  · rw [Nat.xor_mod_two_pow, Nat.mod_self, Nat.xor_zero]
  · rw [← Nat.shiftRight_eq_div_pow, ← Nat.shiftRight_eq_div_pow, Nat.shiftRight_xor_distrib]
    congr 1
    rw [Nat.shiftRight_eq_div_pow, Nat.div_self (Nat.two_pow_pos n)]

theorem xor_one (n : Nat) : (n ^^^ 1) % 2 = 1 - n % 2 ∧ (n ^^^ 1) / 2 = n / 2 := by
  have h := xor_top 0 n
  constructor
  · have := Nat.xor_mod_two_pow (a := n) (b := 1) (n := 1)
    simp only [Nat.pow_one] at this
    rw [this]
    rcases Nat.mod_two_eq_zero_or_one n with h | h <;> rw [h] <;> decide
  · have := Nat.shiftRight_xor_distrib (a := n) (b := 1) (i := 1)
    simp only [Nat.shiftRight_eq_div_pow, Nat.pow_one] at this
    simpa using this

theorem read_neg (k : FloatKind) (b : Nat) : k.format.read (Op.negFloat k b) = (k.format.read b).opposite := by
  have key : ∀ f : Ieee.Format, f.read (b ^^^ f.signWeight) = (f.read b).opposite := by
    intro f
    have h := xor_top (f.exponentBits + f.fractionBits) b
    have h2 := (xor_one (b / 2 ^ (f.exponentBits + f.fractionBits))).1
    have e1 : (b ^^^ f.signWeight) % f.signWeight = b % f.signWeight := h.1
    have e2 : ((b ^^^ f.signWeight) / f.signWeight % 2 == 1) = !(b / f.signWeight % 2 == 1) := by
      have e : (b ^^^ f.signWeight) / f.signWeight % 2 = 1 - b / f.signWeight % 2 := by
        show (b ^^^ 2 ^ (f.exponentBits + f.fractionBits)) / 2 ^ (f.exponentBits + f.fractionBits) % 2 = _
        rw [h.2, h2]; rfl
      rw [e]
      rcases Nat.mod_two_eq_zero_or_one (b / f.signWeight) with h | h <;> rw [h] <;> rfl
    unfold Ieee.Format.read
    simp only [e1, e2]
    split
    · rfl
    · split
      · rfl
      · split <;> rfl
  exact key k.format

theorem isNaN_neg (k : FloatKind) (b : Nat) : isNaN k (Op.negFloat k b) = isNaN k b := by
  unfold isNaN; rw [read_neg]; cases k.format.read b <;> rfl

theorem fop_negnvl (op : BinOp) (k : FloatKind) (x y t : Nat) : fop op k (Op.negFloat k (nv k x t)) y = fop op k (Op.negFloat k x) y := by
  cases ho : four op with
  | false => rw [fop_other _ _ _ ho, fop_other _ _ _ ho]
  | true =>
    by_cases h : isNaN k x = true
    · rw [fop_nan_left _ ho ((isNaN_neg _ _).trans ((isNaN_nv _ _ _).trans h)), fop_nan_left _ ho ((isNaN_neg _ _).trans h)]
    · rw [nv_of _ (by simpa using h)]
theorem fop_negnvr (op : BinOp) (k : FloatKind) (x y t : Nat) : fop op k y (Op.negFloat k (nv k x t)) = fop op k y (Op.negFloat k x) := by
  cases ho : four op with
  | false => rw [fop_other _ _ _ ho, fop_other _ _ _ ho]
  | true =>
    by_cases h : isNaN k x = true
    · rw [fop_nan_right _ ho ((isNaN_neg _ _).trans h), fop_nan_right _ ho ((isNaN_neg _ _).trans ((isNaN_nv _ _ _).trans h))]
    · rw [nv_of _ (by simpa using h)]
theorem order_negnvl (k : FloatKind) (x y t : Nat) : k.format.order (Op.negFloat k (nv k x t)) y = k.format.order (Op.negFloat k x) y := by
  by_cases h : isNaN k x = true
  · rw [order_nan_left _ ((isNaN_neg _ _).trans h), order_nan_left _ ((isNaN_neg _ _).trans ((isNaN_nv _ _ _).trans h))]
  · rw [nv_of _ (by simpa using h)]
theorem order_negnvr (k : FloatKind) (x y t : Nat) : k.format.order y (Op.negFloat k (nv k x t)) = k.format.order y (Op.negFloat k x) := by
  by_cases h : isNaN k x = true
  · rw [order_nan_right _ ((isNaN_neg _ _).trans h), order_nan_right _ ((isNaN_neg _ _).trans ((isNaN_nv _ _ _).trans h))]
  · rw [nv_of _ (by simpa using h)]

attribute [go_sem] fop_nvl fop_nvr order_nvl order_nvr dn_nv fop_negnvl fop_negnvr order_negnvl order_negnvr isNaN_nv isNaN_neg

/-- the turn of a tape's answer -/
def negT : Nat → Nat
  | 0 => 0
  | t + 1 => (t ^^^ 1) + 1
theorem neg_tnan (k : FloatKind) (t : Nat) : Op.negFloat k (tnan k t) = tnan k (t ^^^ 1) := by
  have h1 := xor_one t
  have key : ∀ n c : Nat, c < 2 ^ n → ((t % 2) * 2 ^ n + c) ^^^ 2 ^ n = (1 - t % 2) * 2 ^ n + c := by
    intro n c hc
    have h := xor_top n ((t % 2) * 2 ^ n + c)
    have d1 : ((t % 2) * 2 ^ n + c) / 2 ^ n = t % 2 := by
      rw [Nat.add_comm, Nat.add_mul_div_right _ _ (Nat.two_pow_pos n), Nat.div_eq_of_lt hc, Nat.zero_add]
    have m1 : ((t % 2) * 2 ^ n + c) % 2 ^ n = c := by
      rw [Nat.add_comm, Nat.add_mul_mod_self_right, Nat.mod_eq_of_lt hc]
    rw [d1, m1] at h
    have h2 := (xor_one (t % 2))
    rw [← Nat.div_add_mod (((t % 2) * 2 ^ n + c) ^^^ 2 ^ n) (2 ^ n), h.1, h.2]
    rcases Nat.mod_two_eq_zero_or_one t with e | e <;> rw [e] <;> simp
  cases k
  · have := key 31 (0x7f800000 + 1 + (t / 2) % (2 ^ 23 - 1)) (by omega)
    simp only [tnan, Question.cut, h1.1, h1.2, Op.negFloat]
    rw [Nat.add_assoc, Nat.add_assoc, Nat.add_assoc, Nat.add_assoc, ← Nat.add_assoc 0x7f800000 1]
    exact this
  · have := key 63 (0x7ff0000000000000 + 1 + (t / 2) % (2 ^ 52 - 1)) (by omega)
    simp only [tnan, Question.cut, h1.1, h1.2, Op.negFloat]
    rw [Nat.add_assoc, Nat.add_assoc, Nat.add_assoc, Nat.add_assoc, ← Nat.add_assoc 0x7ff0000000000000 1]
    exact this
theorem neg_nv (k : FloatKind) (b t : Nat) : Op.negFloat k (nv k b t) = nv k (Op.negFloat k b) (negT t) := by
  cases t with
  | zero => rfl
  | succ t =>
    by_cases h : isNaN k b = true
    · rw [nv_nan t h, negT, nv_nan _ ((isNaN_neg k b).trans h), neg_tnan]
    · have h' : isNaN k b = false := by simpa using h
      rw [nv_of _ h', nv_of _ ((isNaN_neg k b).trans h')]
attribute [go_sem] neg_nv
@[go_sem] theorem run_negf (P : Program) (w : World) (k : FloatKind) (b : Nat) : (Op.unary .neg (.float k b)).run P w = .ok (.float k (Op.negFloat k b)) w := by simp [Op.unary]

/-! ### the absolute value, by the bits -/
theorem bits_abs64 (b : Nat) : bits .andNot .u64 (b : Int) 9223372036854775808 = ((b % 9223372036854775808 : Nat) : Int) := by
  have h : (BitVec.ofInt 64 (b : Int) &&& ~~~ (BitVec.ofInt 64 9223372036854775808)).toNat = b % 9223372036854775808 := by
    have e : ~~~ (BitVec.ofInt 64 9223372036854775808) = BitVec.ofNat 64 (2 ^ 63 - 1) := by decide
    rw [e, BitVec.toNat_and, BitVec.ofInt_natCast]
    simp only [BitVec.toNat_ofNat]
    rw [Nat.mod_eq_of_lt (a := 2 ^ 63 - 1) (by decide), Nat.and_two_pow_sub_one_eq_mod]
    omega
  show IntKind.u64.wrap ((BitVec.ofInt 64 (b : Int) &&& ~~~ (BitVec.ofInt 64 9223372036854775808)).toNat : Int) = _
  rw [h]
  simp [IntKind.wrap, IntKind.bits, IntKind.signed]
  omega
theorem bits_abs32 (b : Nat) : bits .and .u32 (b : Int) 2147483647 = ((b % 2147483648 : Nat) : Int) := by
  have h : (BitVec.ofInt 32 (b : Int) &&& BitVec.ofInt 32 2147483647).toNat = b % 2147483648 := by
    have e : BitVec.ofInt 32 2147483647 = BitVec.ofNat 32 (2 ^ 31 - 1) := by decide
    rw [e, BitVec.toNat_and, BitVec.ofInt_natCast]
    simp only [BitVec.toNat_ofNat]
    rw [Nat.mod_eq_of_lt (a := 2 ^ 31 - 1) (by decide), Nat.and_two_pow_sub_one_eq_mod]
    omega
  show IntKind.u32.wrap ((BitVec.ofInt 32 (b : Int) &&& BitVec.ofInt 32 2147483647).toNat : Int) = _
  rw [h, IntKind.wrap_u32']
  omega
/-- the absolute value -/
def ab (k : FloatKind) (b : Nat) : Nat := if isNaN k b then qnan k else b % k.format.signWeight
theorem ab_nv (k : FloatKind) (b t : Nat) : ab k (nv k b t) = ab k b := by
  by_cases h : isNaN k b = true
  · unfold ab; rw [isNaN_nv, h]; rfl
  · rw [nv_of _ (by simpa using h)]
theorem read_mod (f : Ieee.Format) (b : Nat) : f.read (b % f.signWeight) = (match f.read b with | .number _ m e => .number false m e | .infinity _ => .infinity false | .nan _ t => .nan false t) := by
  have hp : 0 < f.signWeight := Nat.two_pow_pos _
  have e1 : b % f.signWeight / f.signWeight = 0 := Nat.div_eq_of_lt (Nat.mod_lt _ hp)
  unfold Ieee.Format.read
  simp only [e1, Nat.mod_mod]
  split
  · rfl
  · split
    · rfl
    · split <;> rfl
theorem isNaN_mod (k : FloatKind) (b : Nat) : isNaN k (b % k.format.signWeight) = isNaN k b := by
  unfold isNaN; rw [read_mod]; cases k.format.read b <;> rfl
theorem isNaN_ab (k : FloatKind) (b : Nat) : isNaN k (ab k b) = isNaN k b := by
  unfold ab; split
  · rename_i h; rw [isNaN_qnan, h]
  · exact isNaN_mod k b
theorem nan_word {k : FloatKind} {b : Nat} (h : isNaN k b = true) (hb : b < k.format.signWeight) : ∃ t, b = tnan k t := by
  cases k
  · have hb' : b < 2147483648 := hb
    have hlo : 2139095040 < b := by
      apply Nat.lt_of_not_le; intro hle
      have := word_read Ieee.single false b (by rw [show Ieee.single.infRung = 2139095040 by decide]; exact hle)
      unfold isNaN at h
      rw [show FloatKind.f32.format = Ieee.single from rfl] at h
      rw [show Ieee.single.word false b = b from rfl, h] at this
      cases this
    refine ⟨2 * (b - 2139095041), ?_⟩
    simp only [tnan, Question.cut]
    omega
  · have hb' : b < 9223372036854775808 := hb
    have hlo : 9218868437227405312 < b := by
      apply Nat.lt_of_not_le; intro hle
      have := word_read Ieee.double false b (by rw [show Ieee.double.infRung = 9218868437227405312 by decide]; exact hle)
      unfold isNaN at h
      rw [show FloatKind.f64.format = Ieee.double from rfl] at h
      rw [show Ieee.double.word false b = b from rfl, h] at this
      cases this
    refine ⟨2 * (b - 9218868437227405313), ?_⟩
    simp only [tnan, Question.cut]
    omega
/-- the bits cut by hand are the absolute value -/
theorem mod_ab (k : FloatKind) (b t : Nat) : ∃ u, nv k b t % k.format.signWeight = nv k (ab k b) u := by
  by_cases h : isNaN k b = true
  · have h1 : isNaN k (nv k b t % k.format.signWeight) = true := by rw [isNaN_mod, isNaN_nv, h]
    obtain ⟨u, hu⟩ := nan_word h1 (Nat.mod_lt _ (Nat.two_pow_pos _))
    refine ⟨u + 1, ?_⟩
    rw [hu, nv_nan _ (by rw [isNaN_ab, h])]
  · have h' : isNaN k b = false := by simpa using h
    refine ⟨0, ?_⟩
    rw [nv_of _ h', nv, ab, if_neg h]

/-! ### from one kind to the other -/
/-- a float32 as a float64 -/
def up (b : Nat) : Nat := if isNaN .f32 b then qnan .f64 else Ieee.double.write (Ieee.single.read b)
theorem up_nv (b t : Nat) : up (nv .f32 b t) = up b := by
  by_cases h : isNaN .f32 b = true
  · unfold up; rw [isNaN_nv, h]; rfl
  · rw [nv_of _ (by simpa using h)]
theorem isNaN_up (b : Nat) : isNaN .f64 (up b) = isNaN .f32 b := by
  unfold up
  by_cases h : isNaN .f32 b = true
  · rw [if_pos h, h, isNaN_qnan]
  · have h' : isNaN .f32 b = false := by simpa using h
    rw [if_neg h, h']
    exact write_not Ieee.double _ h'

/-- a float64 as a float32 -/
def down (b : Nat) : Nat := if isNaN .f64 b then qnan .f32 else Ieee.single.write (Ieee.double.read b)
/-- too great for a float32 -/
def ovf (b : Nat) : Bool := match Ieee.double.read b with | .number s m e => (Ieee.single.read (Ieee.single.write (.number s m e))).isInfinity | _ => false
theorem down_nv (b t : Nat) : down (nv .f64 b t) = down b := by
  by_cases h : isNaN .f64 b = true
  · unfold down; rw [isNaN_nv, h]; rfl
  · rw [nv_of _ (by simpa using h)]
theorem isNaN_down (b : Nat) : isNaN .f32 (down b) = isNaN .f64 b := by
  unfold down
  by_cases h : isNaN .f64 b = true
  · rw [if_pos h, h, isNaN_qnan]
  · have h' : isNaN .f64 b = false := by simpa using h
    rw [if_neg h, h']
    exact write_not Ieee.single _ h'
theorem ovf_nan {b : Nat} (h : isNaN .f64 b = true) : ovf b = false := by
  obtain ⟨s, t, hr⟩ := read_isNaN h
  unfold ovf
  rw [show Ieee.double.read b = .nan s t from hr]
theorem ovf_nv (b t : Nat) : ovf (nv .f64 b t) = ovf b := by
  by_cases h : isNaN .f64 b = true
  · rw [ovf_nan h, ovf_nan (by rw [isNaN_nv, h])]
  · rw [nv_of _ (by simpa using h)]

/-- what a finite number of a float32 is -/
theorem read_single (b : Nat) (s : Bool) (m : Nat) (e : Int) (h : Ieee.single.read b = .number s m e) : m < 16777216 ∧ -149 ≤ e ∧ e ≤ 104 := by
  unfold Ieee.Format.read at h
  have e1 : Ieee.single.signWeight = 2147483648 := by decide
  have e2 : Ieee.single.binade = 8388608 := by decide
  have e3 : Ieee.single.infRung = 2139095040 := by decide
  have e4 : Ieee.single.leastPlace = -149 := by decide
  simp only [e1, e2, e3, e4] at h
  split at h
  · simp only [Ieee.Datum.number.injEq] at h; omega
  · split at h
    · simp only [Ieee.Datum.number.injEq] at h; omega
    · split at h <;> cases h

theorem cut_zero (way : Ieee.Toward) (neg : Bool) (n : Nat) : way.cut neg n 0 = n := by
  unfold Ieee.Toward.cut
  cases way <;> simp [Nat.mod_one]

/-- a number that a float64 has, exactly: its rung -/
theorem double_rung (s : Bool) (m : Nat) (e : Int) (hm : m < 16777216) (he : -149 ≤ e) (he' : e ≤ 104) :
    ∃ r, Ieee.double.write (.number s m e) = Ieee.double.word s r ∧ r < Ieee.double.infRung := by
  have e1 : Ieee.double.infRung = 9218868437227405312 := by decide
  have e2 : Ieee.double.binade = 4503599627370496 := by decide
  have e3 : Ieee.double.leastPlace = -1074 := by decide
  have e4 : Ieee.double.fractionBits = 52 := rfl
  show ∃ r, Ieee.double.nearest s m e = _ ∧ _
  unfold Ieee.Format.nearest
  by_cases h0 : m = 0
  · rw [if_pos h0]; exact ⟨0, rfl, by rw [e1]; omega⟩
  · rw [if_neg h0]
    have hl : m.log2 < 24 := (Nat.log2_lt h0).2 hm
    have hlt := Nat.lt_log2_self (n := m)
    dsimp only
    refine ⟨_, rfl, ?_⟩
    rw [e1, e2, e3, e4]
    generalize m.log2 = L at hl hlt
    have hlast : max (e + (L : Int) - ((52 : Nat) : Int)) (-1074) = e + L - 52 := by omega
    rw [hlast]
    have hd : (e + (L : Int) - 52 - e).toNat = 0 := by omega
    have hs : (e - (e + (L : Int) - 52)).toNat = 52 - L := by omega
    rw [hd, hs, cut_zero]
    have hk : m <<< (52 - L) < 9007199254740992 := by
      rw [Nat.shiftLeft_eq]
      calc m * 2 ^ (52 - L) < 2 ^ (L + 1) * 2 ^ (52 - L) := Nat.mul_lt_mul_of_pos_right hlt (Nat.two_pow_pos _)
        _ = 2 ^ 53 := by rw [← Nat.pow_add]; congr 1; omega
        _ = 9007199254740992 := by decide
    generalize m <<< (52 - L) = K at hk
    generalize hX : (e + (L : Int) - 52 - -1074).toNat = X
    have hX' : X ≤ 1149 := by omega
    clear hX hs hd hlast
    have : X * 4503599627370496 + K < 9218868437227405312 := by omega
    exact Nat.lt_of_le_of_lt (Nat.min_le_left ..) this

theorem word_read_lt (f : Ieee.Format) (neg : Bool) (r : Nat) (h : r < f.infRung) : (f.read (f.word neg r)).isInfinity = false := by
  have hlt := f.infRung_lt
  have hr : f.word neg r % f.signWeight = r := by
    unfold Ieee.Format.word
    cases neg
    · simp only [Bool.false_eq_true, if_false]; exact Nat.mod_eq_of_lt (by omega)
    · simp only [if_true]; rw [Nat.add_mod_left]; exact Nat.mod_eq_of_lt (by omega)
  unfold Ieee.Format.read
  simp only [hr]
  split
  · rfl
  · first | rfl | (rw [if_pos h]; rfl)

@[go_sem] theorem run_up (P : Program) (w : World) (src dst : TypeId) (b : Nat) (hs : P.underlying src = some (.float .f32)) (hd : P.underlying dst = some (.float .f64)) :
    (convert src dst (.float .f32 b)).run P w = .ok (.float .f64 (nv .f64 (up b) (tc w .f64 b))) (w.drewN (dn .f32 b)) := by
  by_cases h : isNaN .f32 b = true
  · obtain ⟨s, t, hr⟩ := read_isNaN h
    have hu : up b = qnan .f64 := by unfold up; rw [if_pos h]
    simp only [hu, tc, nv_nan _ (isNaN_qnan .f64), dn, h, if_true]
    simp [convert, run_underlying hs, run_underlying hd, Conv.floatToFloat, FloatKind.decode, hr, Question.forced, cut_nanConv]
    rfl
  · have h' : isNaN .f32 b = false := by simpa using h
    have hu : up b = Ieee.double.write (Ieee.single.read b) := by unfold up; rw [if_neg h]
    have hn : isNaN .f64 (up b) = false := by rw [isNaN_up, h']
    rw [nv_of _ hn, hu]
    simp only [dn, h', Bool.false_eq_true, if_false]
    have hb : FloatKind.f32.decode b = Ieee.single.read b := rfl
    cases hr : Ieee.single.read b with
    | nan s t => unfold isNaN at h'; rw [show FloatKind.f32.format.read b = Ieee.single.read b from rfl, hr] at h'; cases h'
    | infinity s =>
      simp [convert, run_underlying hs, run_underlying hd, Conv.floatToFloat, hb, hr]
      exact ⟨rfl, rfl⟩
    | number s m e =>
      obtain ⟨h1, h2, h3⟩ := read_single b s m e hr
      obtain ⟨r, hw, hlt⟩ := double_rung s m e h1 h2 h3
      have hi : (FloatKind.f64.decode (FloatKind.f64.encode (.number s m e))).isInfinity = false := by
        show (Ieee.double.read (Ieee.double.write (.number s m e))).isInfinity = false
        rw [hw]; exact word_read_lt _ _ _ hlt
      simp [convert, run_underlying hs, run_underlying hd, Conv.floatToFloat, hb, hr, hi]
      exact ⟨rfl, rfl⟩

@[go_sem] theorem run_down (P : Program) (w : World) (src dst : TypeId) (b : Nat) (hs : P.underlying src = some (.float .f64)) (hd : P.underlying dst = some (.float .f32)) (ho : ovf b = false) :
    (convert src dst (.float .f64 b)).run P w = .ok (.float .f32 (nv .f32 (down b) (tc w .f32 b))) (w.drewN (dn .f64 b)) := by
  by_cases h : isNaN .f64 b = true
  · obtain ⟨s, t, hr⟩ := read_isNaN h
    have hu : down b = qnan .f32 := by unfold down; rw [if_pos h]
    simp only [hu, tc, nv_nan _ (isNaN_qnan .f32), dn, h, if_true]
    simp [convert, run_underlying hs, run_underlying hd, Conv.floatToFloat, FloatKind.decode, hr, Question.forced, cut_nanConv]
    rfl
  · have h' : isNaN .f64 b = false := by simpa using h
    have hu : down b = Ieee.single.write (Ieee.double.read b) := by unfold down; rw [if_neg h]
    have hn : isNaN .f32 (down b) = false := by rw [isNaN_down, h']
    rw [nv_of _ hn, hu]
    simp only [dn, h', Bool.false_eq_true, if_false]
    have hb : FloatKind.f64.decode b = Ieee.double.read b := rfl
    cases hr : Ieee.double.read b with
    | nan s t => unfold isNaN at h'; rw [show FloatKind.f64.format.read b = Ieee.double.read b from rfl, hr] at h'; cases h'
    | infinity s =>
      simp [convert, run_underlying hs, run_underlying hd, Conv.floatToFloat, hb, hr]
      exact ⟨rfl, rfl⟩
    | number s m e =>
      have hi : (FloatKind.f32.decode (FloatKind.f32.encode (.number s m e))).isInfinity = false := by
        unfold ovf at ho; rw [hr] at ho; exact ho
      simp [convert, run_underlying hs, run_underlying hd, Conv.floatToFloat, hb, hr, hi]
      exact ⟨rfl, rfl⟩
attribute [go_sem] up_nv down_nv ovf_nv isNaN_up isNaN_down

theorem fmt32 : Ieee.single.fractionBits = 23 ∧ Ieee.single.leastPlace = -149 ∧ Ieee.single.binade = 8388608 ∧ Ieee.single.infRung = 2139095040 ∧ Ieee.single.signWeight = 2147483648 := by decide
theorem fmt64 : Ieee.double.fractionBits = 52 ∧ Ieee.double.leastPlace = -1074 ∧ Ieee.double.binade = 4503599627370496 ∧ Ieee.double.infRung = 9218868437227405312 ∧ Ieee.double.signWeight = 9223372036854775808 := by decide

/-- a number of a float32, written as a float64 and read: the same number -/
theorem read_up (s : Bool) (m : Nat) (e : Int) (hm : m < 16777216) (he : -149 ≤ e) (he' : e ≤ 104) :
    ∃ j : Nat, Ieee.double.read (Ieee.double.write (.number s m e)) = .number s (m * 2 ^ j) (e - j) := by
  by_cases h0 : m = 0
  · subst h0
    refine ⟨(e + 1074).toNat, ?_⟩
    have : e - ((e + 1074).toNat : Int) = -1074 := by omega
    rw [this, Nat.zero_mul]
    show Ieee.double.read (Ieee.double.nearest s 0 e) = _
    rw [nearest_rung]
    simp only [rung, if_true, Nat.zero_min]
    obtain ⟨f1, f2, f3, f4, f5⟩ := fmt64
    rw [read_word _ _ _ (by rw [f4]; omega)]
    unfold mg pl
    rw [f3, f2, if_pos (by omega), if_pos (by omega)]
  · have hl : m.log2 < 24 := (Nat.log2_lt h0).2 hm
    obtain ⟨f1, f2, f3, f4, f5⟩ := fmt64
    have hlast : lastOf Ieee.double m e = e + m.log2 - 52 := by unfold lastOf; rw [f1, f2]; omega
    have hz : (lastOf Ieee.double m e - e).toNat = 0 := by omega
    have hr : rung Ieee.double m e < Ieee.double.infRung := by
      have hk := kept_le Ieee.double m e h0
      unfold rung
      rw [if_neg h0]
      generalize rhe (m * 2 ^ (e - lastOf Ieee.double m e).toNat) (2 ^ (lastOf Ieee.double m e - e).toNat) = K at *
      rw [f2, f3, f4]
      rw [f3] at hk
      have hX : (lastOf Ieee.double m e - -1074).toNat ≤ 1149 := by omega
      generalize (lastOf Ieee.double m e - -1074).toNat = X at *
      clear hlast hz
      omega
    refine ⟨(e - lastOf Ieee.double m e).toNat, ?_⟩
    rw [read_write_exact Ieee.double s m e h0 (by omega) hr]
    congr 1
    omega

theorem nearest_scale (f : Ieee.Format) (s : Bool) (m j : Nat) (e : Int) : f.nearest s (m * 2 ^ j) (e - j) = f.nearest s m e := by
  rw [nearest_rung, nearest_rung, rung_scale]

theorem up_number {b : Nat} {s : Bool} {m : Nat} {e : Int} (h : Ieee.single.read b = .number s m e) : up b = Ieee.double.write (.number s m e) ∧ ∃ j : Nat, Ieee.double.read (up b) = .number s (m * 2 ^ j) (e - j) := by
  have hn : isNaN .f32 b = false := by unfold isNaN; rw [show FloatKind.f32.format.read b = Ieee.single.read b from rfl, h]; rfl
  have hu : up b = Ieee.double.write (.number s m e) := by unfold up; rw [hn, h]; simp only [Bool.false_eq_true, if_false]
  obtain ⟨h1, h2, h3⟩ := read_single b s m e h
  refine ⟨hu, ?_⟩
  rw [hu]; exact read_up s m e h1 h2 h3
theorem up_infinity {b : Nat} {s : Bool} (h : Ieee.single.read b = .infinity s) : Ieee.double.read (up b) = .infinity s := by
  have hn : isNaN .f32 b = false := by unfold isNaN; rw [show FloatKind.f32.format.read b = Ieee.single.read b from rfl, h]; rfl
  unfold up; rw [hn, h]
  simp only [Bool.false_eq_true, if_false]
  cases s <;> decide

theorem down_up {b : Nat} (h : isNaN .f32 b = false) (hb : b < 4294967296) : down (up b) = b := by
  have hw : Ieee.single.write (Ieee.single.read b) = b := write_read Ieee.single (by decide) b hb h
  unfold down
  rw [isNaN_up, h]
  simp only [Bool.false_eq_true, if_false]
  cases hr : Ieee.single.read b with
  | nan s t => unfold isNaN at h; rw [show FloatKind.f32.format.read b = Ieee.single.read b from rfl, hr] at h; cases h
  | infinity s => rw [up_infinity hr, ← hr]; exact hw
  | number s m e =>
    obtain ⟨_, j, hj⟩ := up_number hr
    rw [hj]
    show Ieee.single.nearest s (m * 2 ^ j) (e - j) = b
    rw [nearest_scale]
    rw [hr] at hw; exact hw

theorem ovf_of_down {b : Nat} (h : ∀ s, Ieee.single.read (down b) ≠ .infinity s) : ovf b = false := by
  by_cases hn : isNaN .f64 b = true
  · exact ovf_nan hn
  · unfold ovf
    have hd : down b = Ieee.single.write (Ieee.double.read b) := by unfold down; rw [if_neg hn]
    rw [hd] at h
    cases hr : Ieee.double.read b with
    | nan s t => rfl
    | infinity s => rfl
    | number s m e =>
      rw [hr] at h
      cases hq : Ieee.single.read (Ieee.single.write (.number s m e)) with
      | infinity s => exact absurd hq (h s)
      | number s m e => simp only [hq]; rfl
      | nan s t => simp only [hq]; rfl

theorem read_mod32 (b : Nat) : Ieee.single.read (b % 4294967296) = Ieee.single.read b := by
  have e5 : Ieee.single.signWeight = 2147483648 := by decide
  have h1 : b % 4294967296 / 2147483648 % 2 = b / 2147483648 % 2 := by omega
  have h2 : b % 4294967296 % 2147483648 = b % 2147483648 := by omega
  unfold Ieee.Format.read
  simp only [e5, h1, h2]
theorem ovf_up (b : Nat) : ovf (up b) = false := by
  by_cases hn : isNaN .f32 b = true
  · exact ovf_nan (by rw [isNaN_up, hn])
  · unfold ovf
    cases hr : Ieee.single.read b with
    | nan s t => exfalso; apply hn; unfold isNaN; rw [show FloatKind.f32.format.read b = Ieee.single.read b from rfl, hr]; rfl
    | infinity s => rw [up_infinity hr]
    | number s m e =>
      obtain ⟨_, j, hj⟩ := up_number hr
      rw [hj]
      show (Ieee.single.read (Ieee.single.nearest s (m * 2 ^ j) (e - j))).isInfinity = false
      rw [nearest_scale]
      have hn' : isNaN .f32 b = false := by simpa using hn
      have hw := write_read Ieee.single (by decide) (b % 4294967296) (Nat.mod_lt _ (by decide)) (by rw [read_mod32]; exact hn')
      rw [read_mod32, hr] at hw
      rw [show Ieee.single.nearest s m e = b % 4294967296 from hw, read_mod32, hr]
      rfl
/-- a number and its negative, or its absolute value: too great alike -/
theorem ovf_ab (b : Nat) : ovf (ab .f64 b) = ovf b := by
  by_cases hn : isNaN .f64 b = true
  · rw [ovf_nan hn, ovf_nan (by rw [isNaN_ab, hn])]
  · unfold ovf ab
    rw [if_neg hn]
    rw [show FloatKind.f64.format = Ieee.double from rfl, read_mod]
    cases hr : Ieee.double.read b with
    | nan s t => rfl
    | infinity s => rfl
    | number s m e =>
      show (Ieee.single.read (Ieee.single.nearest false m e)).isInfinity = (Ieee.single.read (Ieee.single.nearest s m e)).isInfinity
      rw [nearest_rung, nearest_rung]
      by_cases hlt : rung Ieee.single m e < Ieee.single.infRung
      · rw [Nat.min_eq_left (by omega), read_word _ _ _ hlt, read_word _ _ _ hlt]; rfl
      · rw [Nat.min_eq_right (by omega)]
        cases s <;> rfl
/-- a float32's absolute value, by the way of a float64 -/
theorem down_ab_up (b : Nat) : down (ab .f64 (up b)) = ab .f32 b := by
  by_cases hn : isNaN .f32 b = true
  · have h1 : isNaN .f64 (ab .f64 (up b)) = true := by rw [isNaN_ab, isNaN_up, hn]
    unfold down; rw [if_pos h1]; unfold ab; rw [if_pos hn]
  · have hn' : isNaN .f32 b = false := by simpa using hn
    have h1 : isNaN .f64 (ab .f64 (up b)) = false := by rw [isNaN_ab, isNaN_up, hn']
    have hw : Ieee.single.write (Ieee.single.read (b % 2147483648)) = b % 2147483648 :=
      write_read Ieee.single (by decide) _ (Nat.lt_trans (Nat.mod_lt _ (by decide)) (by decide)) ((isNaN_mod .f32 b).trans hn')
    have hm := read_mod Ieee.single b
    rw [show Ieee.single.signWeight = 2147483648 from by decide] at hm
    rw [hm] at hw
    have hR : ab .f32 b = b % 2147483648 := by unfold ab; rw [if_neg hn]; rfl
    rw [hR]
    unfold down
    rw [h1]
    simp only [Bool.false_eq_true, if_false]
    have hA : ab .f64 (up b) = up b % Ieee.double.signWeight := by unfold ab; rw [if_neg (by rw [isNaN_up]; exact hn)]; rfl
    rw [hA, read_mod]
    cases hr : Ieee.single.read b with
    | nan s t => unfold isNaN at hn'; rw [show FloatKind.f32.format.read b = Ieee.single.read b from rfl, hr] at hn'; cases hn'
    | infinity s => rw [up_infinity hr]; rw [hr] at hw; exact hw
    | number s m e =>
      obtain ⟨_, j, hj⟩ := up_number hr
      rw [hj]
      show Ieee.single.nearest false (m * 2 ^ j) (e - j) = _
      rw [nearest_scale]
      rw [hr] at hw; exact hw

attribute [go_sem] ovf_ab ovf_up
@[go_sem] theorem run_store_float (P : Program) (w : World) (a : Addr) (m : Mode) (k : FloatKind) (b : Nat) : (store a (.float k b) m).run P w = stored P w a (.float k b) m := run_store P w a _ m rfl
/-- the lower bits -/
def low (k : FloatKind) (b : Nat) : Nat := b % k.format.signWeight
theorem low_ab (k : FloatKind) (b t : Nat) : ∃ u, low k (nv k b t) = nv k (ab k b) u := mod_ab k b t
@[go_sem] theorem bits_low64 (b : Nat) : bits .andNot .u64 (b : Int) 9223372036854775808 = (low .f64 b : Nat) := bits_abs64 b
@[go_sem] theorem bits_low32 (b : Nat) : bits .and .u32 (b : Int) 2147483647 = (low .f32 b : Nat) := bits_abs32 b
end Go.Proofs.YtbdanadmabemdaaDoor.Fl
