
/-
Contracts over filters.
-/
import Derived.Test.YtmhgcflccaflpaaDa
import Derived.Deep.RegionWith
namespace Go.Proofs.Ytmhgcflccaflpaa
open Go Go.RowKit Fl

def RetI (k : IntKind) (i : Int) (w : World) (e : Ending) (w' : World) : Prop := e = .returned (.int k i) ∧ ∃ n, w' = w.drewN n
/-- is it a not-a-number -/
theorem order_nan (a : Nat) : (FloatKind.f32.format.order a a != some .eq) = isNaN .f32 a := by
  cases h : isNaN .f32 a
  · rw [order_self .f32 a h]; rfl
  · rw [order_nan_left a h]; rfl
/-- are two samples the same -/
def sameB (a b : Nat) : Bool := (can .f32 a : Int) == (can .f32 b : Int)
theorem c_bitsOf (a : Nat) (w : World) : Calls Try.prog 25 #[.float .f32 a] w (RetI .u32 (can .f32 a : Nat) w) := by
  have ho := order_nan a
  cases h : isNaN .f32 a
  · rw [h] at ho
    have hc : can .f32 a = a := by unfold can; rw [h]; rfl
    rw [hc]
    go_enter Try.func25, Try.ntmps25
    go_wp2
    go_ret
    exact ⟨rfl, same0 _⟩
  · rw [h] at ho
    have hc : can .f32 a = 2143289344 := by unfold can; rw [h]; rfl
    rw [hc]
    go_enter Try.func25, Try.ntmps25
    go_wp2
    go_ret
    exact ⟨rfl, same0 _⟩
theorem sameB_of (a b : Nat) : sameB a b = (if isNaN .f32 a || isNaN .f32 b then isNaN .f32 a && isNaN .f32 b else (a : Int) == (b : Int)) := by
  have key : ∀ x, isNaN .f32 x = false → ¬ (x : Int) = 2143289344 := by
    intro x hx h
    have : x = 2143289344 := by omega
    subst this
    have h2 := isNaN_qnan .f32
    rw [show qnan .f32 = 2143289344 from rfl, hx] at h2; cases h2
  unfold sameB can
  cases ha : isNaN .f32 a <;> cases hb : isNaN .f32 b <;> simp [qnan]
  · exact key a ha
  · intro h; exact key b hb h.symm
/-- a list of the numbers of a filter: the first are finite, the others 0 -/
def usB (xs : List Nat) (m : Int) (i : Nat) : Bool := finB (nth xs i) && (decide ((i : Int) < m) || sameB (nth xs i) 0)
def usedTo (xs : List Nat) (m : Int) : Nat → Bool
  | 0 => true
  | k + 1 => usedTo xs m k && usB xs m k
theorem usedTo_false {xs : List Nat} {m : Int} {k : Nat} (h : usB xs m k = false) : ∀ n, k < n → usedTo xs m n = false
  | n + 1, hk => by
    by_cases e : k = n
    · subst e; rw [usedTo, h, Bool.and_false]
    · rw [usedTo, usedTo_false h n (by omega), Bool.false_and]

/-- a slice of floats -/
structure FS (w : World) (a : Option Addr) (n c : Nat) (xs : List Nat) : Prop where
  len : xs.length = n
  cap : n ≤ c
  big : c ≤ 9223372036854775807
  at_ : 0 < n → ∃ b o, a = some ⟨b, o, none⟩ ∧ b < w.heap.size ∧ ∀ i, i < n → w.cell? ⟨b, o + i, none⟩ = some (.float .f32 (nth xs i))
theorem FS.draw {w : World} {a : Option Addr} {n c m : Nat} {xs : List Nat} (h : FS w a n c xs) : FS (w.drewN m) a n c xs := ⟨h.len, h.cap, h.big, h.at_⟩
theorem FS.below {w w' : World} {a : Option Addr} {n c B : Nat} {xs : List Nat} (h : FS w a n c xs) (hb : Below B w w') (hB : w.heap.size ≤ B) : FS w' a n c xs :=
  ⟨h.len, h.cap, h.big, fun hn => by
    obtain ⟨b, o, ha, hbl, hc⟩ := h.at_ hn
    exact ⟨b, o, ha, Nat.lt_of_lt_of_le hbl hb.size, fun i hi => by rw [hb.cell (p := ⟨b, o + i, none⟩) (Nat.lt_of_lt_of_le hbl hB)]; exact hc i hi⟩⟩

/-- how many numbers, and how many states, a kind uses -/
def cN (k : Int) : Int := if k = 1 ∨ k = 2 then 2 else if k = 3 ∨ k = 5 then 1 else if k = 4 then 3 else 0
def sN (k : Int) : Int := if k = 1 ∨ k = 2 then 1 else if k = 3 ∨ k = 4 ∨ k = 5 then 2 else 0
theorem kinds (k : Int) : k = 1 ∨ k = 2 ∨ k = 3 ∨ k = 4 ∨ k = 5 ∨ (k ≠ 1 ∧ k ≠ 2 ∧ k ≠ 3 ∧ k ≠ 4 ∧ k ≠ 5) := by omega
/-- is a filter valid -/
def okF (k : Int) (cs ss : List Nat) : Bool := inB k 1 5 && (usedTo cs (cN k) 3 && usedTo ss (sN k) 2)
theorem cN_pos (k : Int) : decide (0 < cN k) = inB k 1 5 := by
  rcases kinds k with rfl | rfl | rfl | rfl | rfl | ⟨h1, h2, h3, h4, h5⟩
  case inr.inr.inr.inr.inr =>
    have e1 : cN k = 0 := by unfold cN; rw [if_neg (by omega), if_neg (by omega), if_neg (by omega)]
    rw [e1]
    unfold inB
    by_cases h : 1 ≤ k
    · rw [decide_eq_false (show ¬ k ≤ 5 by omega), Bool.and_false]; rfl
    · rw [decide_eq_false h]; rfl
  all_goals rfl

/-- a slice over a box of one's own -/
theorem FS.box {w : World} {g o c : Nat} {xs : List Nat} (hg : g < w.heap.size) (hc : xs.length ≤ c) (hb : c ≤ 9223372036854775807) (h : ∀ i, i < xs.length → w.cell? ⟨g, o + i, none⟩ = some (.float .f32 (nth xs i))) :
    FS w (some ⟨g, o, none⟩) xs.length c xs := ⟨rfl, hc, hb, fun _ => ⟨g, o, rfl, hg, h⟩⟩
def RetBA (b : Bool) (w : World) (e : Ending) (w' : World) : Prop := e = .returned (.bool b) ∧ Below w.heap.size w w'
theorem three (P : Nat → Prop) (h0 : P 0) (h1 : P 1) (h2 : P 2) : ∀ i, i < 3 → P i := fun i hi => by
  match i with
  | 0 => exact h0
  | 1 => exact h1
  | 2 => exact h2
  | n + 3 => omega
theorem two (P : Nat → Prop) (h0 : P 0) (h1 : P 1) : ∀ i, i < 2 → P i := fun i hi => by
  match i with
  | 0 => exact h0
  | 1 => exact h1
  | n + 2 => omega

end Go.Proofs.Ytmhgcflccaflpaa
