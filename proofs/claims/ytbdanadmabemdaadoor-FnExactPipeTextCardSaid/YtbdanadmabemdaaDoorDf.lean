
/-
Contracts over filters.
-/
import Derived.Test.YtbdanadmabemdaaDoorDa
import Derived.Deep.RegionWith
namespace Go.Proofs.YtbdanadmabemdaaDoor
open Go Go.RowKit Fl

def RetI (k : IntKind) (i : Int) (w : World) (e : Ending) (w' : World) : Prop := e = .returned (.int k i) ∧ ∃ n, w' = w.drewN n
/-- is it a not-a-number -/
theorem order_nan (a : Nat) : (FloatKind.f32.format.order a a != some .eq) = isNaN .f32 a := by
  cases h : isNaN .f32 a
  · rw [order_self .f32 a h]; rfl
  · rw [order_nan_left a h]; rfl
/-- are two samples the same -/
def sameB (a b : Nat) : Bool := (can .f32 a : Int) == (can .f32 b : Int)
theorem c_bitsOf (a : Nat) (w : World) : Calls Tryd.prog 70 #[.float .f32 a] w (RetI .u32 (can .f32 a : Nat) w) := by
  have ho := order_nan a
  cases h : isNaN .f32 a
  · rw [h] at ho
    have hc : can .f32 a = a := by unfold can; rw [h]; rfl
    rw [hc]
    go_enter Tryd.func70, Tryd.ntmps70
    go_wp2
    go_ret
    exact ⟨rfl, same0 _⟩
  · rw [h] at ho
    have hc : can .f32 a = 2143289344 := by unfold can; rw [h]; rfl
    rw [hc]
    go_enter Tryd.func70, Tryd.ntmps70
    go_wp2
    go_ret
    exact ⟨rfl, same0 _⟩
theorem c_l01NaN (a : Nat) (w : World) : Calls Tryd.prog 94 #[.float .f32 a] w (RetB (isNaN .f32 a) w) := by
  have ho := order_nan a
  go_enter Tryd.func94, Tryd.ntmps94
  go_wp2
  go_ret
  exact ⟨rfl, same0 _⟩
theorem sameB_of (a b : Nat) : sameB a b = (if isNaN .f32 a || isNaN .f32 b then isNaN .f32 a && isNaN .f32 b else (a : Int) == (b : Int)) := by
  have key : ∀ x, isNaN .f32 x = false → ¬ (x : Int) = 2143289344 := by
    intro x hx h
    have : x = 2143289344 := by omega
    subst this
    have h2 := isNaN_qnan .f32
    rw [show qnan .f32 = 2143289344 from rfl, hx] at h2; cases h2
  unfold sameB can
  cases ha : isNaN .f32 a <;> cases hb : isNaN .f32 b <;> simp [qnan]
  · exact key a ha
  · intro h; exact key b hb h.symm
theorem c_l01Same (a b : Nat) (w : World) : Calls Tryd.prog 76 #[.float .f32 a, .float .f32 b] w (RetB (sameB a b) w) := by
  rw [sameB_of]
  cases ha : isNaN .f32 a <;> cases hb : isNaN .f32 b <;> simp only [Bool.or_false, Bool.or_true, Bool.and_false, Bool.and_true, Bool.false_eq_true, if_false, if_true]
  all_goals
    go_enter Tryd.func76, Tryd.ntmps76
    go_wp2_with (go_at_call 94; refine (c_l01NaN _ _).mono ?_; rintro e w' ⟨rfl, n1, rfl⟩)
    go_ret
    exact ⟨rfl, same1 _ _⟩

/-- a list of the numbers of a filter: the first are finite, the others 0 -/
def usB (xs : List Nat) (m : Int) (i : Nat) : Bool := finB (nth xs i) && (decide ((i : Int) < m) || sameB (nth xs i) 0)
def usedTo (xs : List Nat) (m : Int) : Nat → Bool
  | 0 => true
  | k + 1 => usedTo xs m k && usB xs m k
theorem usedTo_false {xs : List Nat} {m : Int} {k : Nat} (h : usB xs m k = false) : ∀ n, k < n → usedTo xs m n = false
  | n + 1, hk => by
    by_cases e : k = n
    · subst e; rw [usedTo, h, Bool.and_false]
    · rw [usedTo, usedTo_false h n (by omega), Bool.false_and]

/-- a slice of floats -/
structure FS (w : World) (a : Option Addr) (n c : Nat) (xs : List Nat) : Prop where
  len : xs.length = n
  cap : n ≤ c
  big : c ≤ 9223372036854775807
  at_ : 0 < n → ∃ b o, a = some ⟨b, o, none⟩ ∧ b < w.heap.size ∧ ∀ i, i < n → w.cell? ⟨b, o + i, none⟩ = some (.float .f32 (nth xs i))
theorem FS.draw {w : World} {a : Option Addr} {n c m : Nat} {xs : List Nat} (h : FS w a n c xs) : FS (w.drewN m) a n c xs := ⟨h.len, h.cap, h.big, h.at_⟩
theorem FS.below {w w' : World} {a : Option Addr} {n c B : Nat} {xs : List Nat} (h : FS w a n c xs) (hb : Below B w w') (hB : w.heap.size ≤ B) : FS w' a n c xs :=
  ⟨h.len, h.cap, h.big, fun hn => by
    obtain ⟨b, o, ha, hbl, hc⟩ := h.at_ hn
    exact ⟨b, o, ha, Nat.lt_of_lt_of_le hbl hb.size, fun i hi => by rw [hb.cell (p := ⟨b, o + i, none⟩) (Nat.lt_of_lt_of_le hbl hB)]; exact hc i hi⟩⟩

theorem c_isUsed (a : Option Addr) (n c : Nat) (xs : List Nat) (m : Int) (w : World) (h : FS w a n c xs) :
    Calls Tryd.prog 86 #[.slice a n c, .int .i64 m] w (RetB (usedTo xs m n) w) := by
  obtain ⟨hl, hcap, hbig, hat⟩ := h
  have HA := Lib.hid hat
  clear hat
  go_enter Tryd.func86, Tryd.ntmps86
  go_wp2
  go_loopw [9] (fun i wr => ∃ k : Nat, k ≤ n ∧ i = .int .i64 k ∧ Hid (usedTo xs m k = true) ∧ ∃ q, wr = w.drewN q) (fun i _ => n - (intOf i).toNat)
  case atStart => exact ⟨0, by omega, rfl, rfl, 0, rfl⟩
  case round =>
    obtain ⟨k, hk, rfl, hall, q, rfl⟩ := hrel
    by_cases hlt : k < n
    · obtain ⟨b, o, rfl, hbl, hcell⟩ := HA.out (by omega)
      have hc := hcell k hlt
      clear HA hcell
      cases hf : finB (nth xs k)
      · have hu : usB xs m k = false := by unfold usB; rw [hf]; rfl
        have HU := Lib.hid (usedTo_false hu n hlt)
        clear hu
        go_wp2_with (go_at_call 81; refine (c_isFinite _ _).mono ?_; rintro e w' ⟨rfl, n1, rfl⟩)
        go_ret
        exact ⟨by rw [HU.out]; rfl, same1 _ _⟩
      · by_cases hm : (k : Int) < m
        · have hu : usB xs m k = true := by unfold usB; rw [hf, decide_eq_true hm]; rfl
          have HU : Hid (usedTo xs m (k + 1) = true) := by rw [usedTo, hall.out, hu]; rfl
          clear hu
          go_wp2_with (go_at_call 81; refine (c_isFinite _ _).mono ?_; rintro e w' ⟨rfl, n1, rfl⟩)
          go_roundw
          case rel => exact ⟨k + 1, by omega, by go_num, HU, same1 _ _⟩
          case measure => simp [intOf]; omega
        · cases hs : sameB (nth xs k) 0
          · have hu : usB xs m k = false := by unfold usB; rw [hf, decide_eq_false hm, hs]; rfl
            have HU := Lib.hid (usedTo_false hu n hlt)
            clear hu
            have hs' : ((can .f32 (nth xs k) : Int) != 0) = true := by
              unfold sameB at hs
              rw [show (can .f32 0 : Nat) = 0 from by decide] at hs
              simpa using hs
            clear hs
            go_wp2_with (first | (go_at_call 81; refine (c_isFinite _ _).mono ?_; rintro e w' ⟨rfl, n1, rfl⟩) | (go_at_call 70; refine (c_bitsOf _ _).mono ?_; rintro e w' ⟨rfl, n1, rfl⟩))
            go_ret
            exact ⟨by rw [HU.out]; rfl, same1 _ _⟩
          · have hu : usB xs m k = true := by unfold usB; rw [hf, decide_eq_false hm, hs]; rfl
            have HU : Hid (usedTo xs m (k + 1) = true) := by rw [usedTo, hall.out, hu]; rfl
            clear hu
            have hs' : ((can .f32 (nth xs k) : Int) != 0) = false := by
              unfold sameB at hs
              rw [show (can .f32 0 : Nat) = 0 from by decide] at hs
              simpa using hs
            clear hs
            go_wp2_with (first | (go_at_call 81; refine (c_isFinite _ _).mono ?_; rintro e w' ⟨rfl, n1, rfl⟩) | (go_at_call 70; refine (c_bitsOf _ _).mono ?_; rintro e w' ⟨rfl, n1, rfl⟩))
            go_roundw
            case rel => exact ⟨k + 1, by omega, by go_num, HU, same1 _ _⟩
            case measure => simp [intOf]; omega
    · obtain rfl : k = n := by omega
      go_wp2
      go_ret
      exact ⟨by rw [hall.out]; rfl, same1 _ _⟩

/-- how many numbers, and how many states, a kind uses -/
def cN (k : Int) : Int := if k = 1 ∨ k = 2 then 2 else if k = 3 ∨ k = 5 then 1 else if k = 4 then 3 else 0
def sN (k : Int) : Int := if k = 1 ∨ k = 2 then 1 else if k = 3 ∨ k = 4 ∨ k = 5 then 2 else 0
theorem kinds (k : Int) : k = 1 ∨ k = 2 ∨ k = 3 ∨ k = 4 ∨ k = 5 ∨ (k ≠ 1 ∧ k ≠ 2 ∧ k ≠ 3 ∧ k ≠ 4 ∧ k ≠ 5) := by omega
theorem c_uses (k : Int) (w : World) : Calls Tryd.prog 85 #[.int .i64 k] w (fun e w' => e = .returned (.tuple #[.int .i64 (cN k), .int .i64 (sN k)]) ∧ w = w') := by
  rcases kinds k with rfl | rfl | rfl | rfl | rfl | ⟨h1, h2, h3, h4, h5⟩
  case inr.inr.inr.inr.inr =>
    have e1 : cN k = 0 := by unfold cN; rw [if_neg (by omega), if_neg (by omega), if_neg (by omega)]
    have e2 : sN k = 0 := by unfold sN; rw [if_neg (by omega), if_neg (by omega)]
    rw [e1, e2]
    have g1 : (k == 1) = false := by simpa using h1
    have g2 : (k == 2) = false := by simpa using h2
    have g3 : (k == 3) = false := by simpa using h3
    have g4 : (k == 4) = false := by simpa using h4
    have g5 : (k == 5) = false := by simpa using h5
    clear e1 e2 h1 h2 h3 h4 h5
    go_enter Tryd.func85, Tryd.ntmps85
    go_wp2
    go_ret2
    exact ⟨rfl, rfl⟩
  all_goals
    go_enter Tryd.func85, Tryd.ntmps85
    go_wp2
    go_ret2
    exact ⟨rfl, rfl⟩
theorem c_l02Uses (k : Int) (w : World) (hk : inB k 1 5 = true) : Calls Tryd.prog 74 #[.int .i64 k] w (fun e w' => e = .returned (.tuple #[.int .i64 (cN k), .int .i64 (sN k)]) ∧ w = w') := by
  have := inB_yes hk
  clear hk
  rcases kinds k with rfl | rfl | rfl | rfl | rfl | ⟨h1, h2, h3, h4, h5⟩
  case inr.inr.inr.inr.inr => omega
  all_goals
    go_enter Tryd.func74, Tryd.ntmps74
    go_wp2
    go_ret2
    exact ⟨rfl, rfl⟩

/-- is a filter valid -/
def okF (k : Int) (cs ss : List Nat) : Bool := inB k 1 5 && (usedTo cs (cN k) 3 && usedTo ss (sN k) 2)
theorem cN_pos (k : Int) : decide (0 < cN k) = inB k 1 5 := by
  rcases kinds k with rfl | rfl | rfl | rfl | rfl | ⟨h1, h2, h3, h4, h5⟩
  case inr.inr.inr.inr.inr =>
    have e1 : cN k = 0 := by unfold cN; rw [if_neg (by omega), if_neg (by omega), if_neg (by omega)]
    rw [e1]
    unfold inB
    by_cases h : 1 ≤ k
    · rw [decide_eq_false (show ¬ k ≤ 5 by omega), Bool.and_false]; rfl
    · rw [decide_eq_false h]; rfl
  all_goals rfl

/-- a slice over a box of one's own -/
theorem FS.box {w : World} {g o c : Nat} {xs : List Nat} (hg : g < w.heap.size) (hc : xs.length ≤ c) (hb : c ≤ 9223372036854775807) (h : ∀ i, i < xs.length → w.cell? ⟨g, o + i, none⟩ = some (.float .f32 (nth xs i))) :
    FS w (some ⟨g, o, none⟩) xs.length c xs := ⟨rfl, hc, hb, fun _ => ⟨g, o, rfl, hg, h⟩⟩
def RetBA (b : Bool) (w : World) (e : Ending) (w' : World) : Prop := e = .returned (.bool b) ∧ Below w.heap.size w w'
theorem three (P : Nat → Prop) (h0 : P 0) (h1 : P 1) (h2 : P 2) : ∀ i, i < 3 → P i := fun i hi => by
  match i with
  | 0 => exact h0
  | 1 => exact h1
  | 2 => exact h2
  | n + 3 => omega
theorem two (P : Nat → Prop) (h0 : P 0) (h1 : P 1) : ∀ i, i < 2 → P i := fun i hi => by
  match i with
  | 0 => exact h0
  | 1 => exact h1
  | n + 2 => omega

theorem c_ValidFilter (k : Int) (c0 c1 c2 s0 s1 : Nat) (w : World) :
    Calls Tryd.prog 59 #[.agg #[.int .i64 k, .float .f32 c0, .float .f32 c1, .float .f32 c2, .float .f32 s0, .float .f32 s1]] w (RetBA (okF k [c0, c1, c2] [s0, s1]) w) := by
  have hp := cN_pos k
  have fC : ∀ n, FS ((w.alloc (.cells #[.int .i64 k, .float .f32 c0, .float .f32 c1, .float .f32 c2, .float .f32 s0, .float .f32 s1] 35)).drewN n) (some ⟨w.heap.size, 1, none⟩) 3 3 [c0, c1, c2] := fun n =>
    FS.box (xs := [c0, c1, c2]) (by simp) (by simp) (by omega) (three _ (by simp [nth]) (by simp [nth]) (by simp [nth]))
  have fS : ∀ n, FS ((w.alloc (.cells #[.int .i64 k, .float .f32 c0, .float .f32 c1, .float .f32 c2, .float .f32 s0, .float .f32 s1] 35)).drewN n) (some ⟨w.heap.size, 4, none⟩) 2 2 [s0, s1] := fun n =>
    FS.box (xs := [s0, s1]) (by simp) (by simp) (by omega) (two _ (by simp [nth]) (by simp [nth]))
  have FC := Lib.hid fC
  have FS' := Lib.hid fS
  clear fC fS
  cases hk : inB k 1 5
  · rw [hk] at hp
    have e : okF k [c0, c1, c2] [s0, s1] = false := by unfold okF; rw [hk]; rfl
    rw [e]
    clear e hk
    go_enter Tryd.func59, Tryd.ntmps59
    go_wp2_with (go_at_call 85; refine (c_uses _ _).mono ?_; rintro e w' ⟨rfl, rfl⟩)
    go_ret
    exact ⟨rfl, by (repeat (first | (with_reducible refine Below.drewN ?_) | (with_reducible refine Below.drew ?_) | ((with_reducible refine Below.alloc ?_ ?_ _); rotate_left; (first | omega | (simp <;> omega))) | ((with_reducible refine Below.setCell ?_ ?_ _); rotate_left; (first | omega | (simp <;> omega))) | (with_reducible exact Below.refl _ _) | (with_reducible assumption)))⟩
  · rw [hk] at hp
    cases hc : usedTo [c0, c1, c2] (cN k) 3
    · have e : okF k [c0, c1, c2] [s0, s1] = false := by unfold okF; rw [hc, Bool.false_and, Bool.and_false]
      rw [e]
      clear e hk
      go_enter Tryd.func59, Tryd.ntmps59
      go_wp2_with (first | (go_at_call 85; refine (c_uses _ _).mono ?_; rintro e w' ⟨rfl, rfl⟩) | (go_at_call 86; refine (c_isUsed _ _ _ [c0, c1, c2] _ _ (FC.out 0)).mono ?_; rintro e w' ⟨rfl, n1, rfl⟩))
      go_ret
      exact ⟨rfl, by (repeat (first | (with_reducible refine Below.drewN ?_) | (with_reducible refine Below.drew ?_) | ((with_reducible refine Below.alloc ?_ ?_ _); rotate_left; (first | omega | (simp <;> omega))) | ((with_reducible refine Below.setCell ?_ ?_ _); rotate_left; (first | omega | (simp <;> omega))) | (with_reducible exact Below.refl _ _) | (with_reducible assumption)))⟩
    · have e : okF k [c0, c1, c2] [s0, s1] = usedTo [s0, s1] (sN k) 2 := by unfold okF; rw [hk, hc]; rfl
      rw [e]
      clear e hk
      go_enter Tryd.func59, Tryd.ntmps59
      go_wp2_with (first | (go_at_call 85; refine (c_uses _ _).mono ?_; rintro e w' ⟨rfl, rfl⟩) | (go_at_call_of 86 (Value.slice (some ⟨w.heap.size, 1, none⟩) 3 3); refine (c_isUsed _ _ _ [c0, c1, c2] _ _ (FC.out 0)).mono ?_; rintro e w' ⟨rfl, n1, rfl⟩) | (go_at_call 86; refine (c_isUsed _ _ _ [s0, s1] _ _ (FS'.out _)).mono ?_; rintro e w' ⟨rfl, n1, rfl⟩))
      go_ret
      exact ⟨rfl, by (repeat (first | (with_reducible refine Below.drewN ?_) | (with_reducible refine Below.drew ?_) | ((with_reducible refine Below.alloc ?_ ?_ _); rotate_left; (first | omega | (simp <;> omega))) | ((with_reducible refine Below.setCell ?_ ?_ _); rotate_left; (first | omega | (simp <;> omega))) | (with_reducible exact Below.refl _ _) | (with_reducible assumption)))⟩

theorem c_l02Ok (b o : Nat) (k : Int) (cs ss : List Nat) (w : World) (h0 : w.cell? ⟨b, o, none⟩ = some (.int .i64 k))
    (hc : ∀ i, i < 3 → w.cell? ⟨b, o + 1 + i, none⟩ = some (.float .f32 (nth cs i))) (hs : ∀ i, i < 2 → w.cell? ⟨b, o + 4 + i, none⟩ = some (.float .f32 (nth ss i))) :
    Calls Tryd.prog 48 #[.pointer (some ⟨b, o, none⟩)] w (RetB (okF k cs ss) w) := by
  have HC := Lib.hid hc
  have HS := Lib.hid hs
  clear hc hs
  cases hk : inB k 1 5
  · have e : okF k cs ss = false := by unfold okF; rw [hk]; rfl
    rw [e]
    clear e
    go_enter Tryd.func48, Tryd.ntmps48
    go_wp2_with (go_at_call 73; refine (c_l00In _ _ _ _).mono ?_; rintro e w' ⟨rfl, n1, rfl⟩)
    go_ret
    exact ⟨rfl, same1 _ _⟩
  · have HK := Lib.hid hk
    go_enter Tryd.func48, Tryd.ntmps48
    go_wp2_with (first | (go_at_call 73; refine (c_l00In _ _ _ _).mono ?_; rintro e w' ⟨rfl, n1, rfl⟩) | (go_at_call 74; refine (c_l02Uses _ _ HK.out).mono ?_; rintro e w' ⟨rfl, rfl⟩))
    clear hk
    go_loopw [5] (fun i wr => ∃ j : Nat, j ≤ 3 ∧ i = .int .i64 j ∧ Hid (usedTo cs (cN k) j = true) ∧ ∃ q, wr = w.drewN q) (fun i _ => 3 - (intOf i).toNat)
    case atStart => exact ⟨0, by omega, rfl, rfl, same1 _ _⟩
    case round =>
        obtain ⟨j, hj, rfl, hall, q, rfl⟩ := hrel
        by_cases hlt : j < 3
        · have hcell := HC.out j hlt
          cases hf : finB (nth cs j)
          · have hu : usB cs (cN k) j = false := by unfold usB; rw [hf]; rfl
            have HU : Hid (okF k cs ss = false) := by unfold okF; rw [usedTo_false hu 3 hlt, Bool.false_and, Bool.and_false]; rfl
            clear hu
            go_wp2_with (go_at_call 75; refine (c_l01Finite _ _).mono ?_; rintro e w' ⟨rfl, n1, rfl⟩)
            go_ret
            exact ⟨by rw [HU.out]; rfl, same1 _ _⟩
          · by_cases hm : (j : Int) < (cN k)
            · have hu : usB cs (cN k) j = true := by unfold usB; rw [hf, decide_eq_true hm]; rfl
              have HU : Hid (usedTo cs (cN k) (j + 1) = true) := by rw [usedTo, hall.out, hu]; rfl
              clear hu
              go_wp2_with (go_at_call 75; refine (c_l01Finite _ _).mono ?_; rintro e w' ⟨rfl, n1, rfl⟩)
              go_roundw
              case rel => first | exact ⟨j + 1, by omega, by go_num, HU, same1 _ _⟩ | ((repeat apply Exists.intro); exact ⟨⟨j + 1, by omega, by go_num, HU, same1 _ _⟩, rfl⟩)
              case measure => simp [intOf]; omega
            · cases hz : sameB (nth cs j) 0
              · have hu : usB cs (cN k) j = false := by unfold usB; rw [hf, decide_eq_false hm, hz]; rfl
                have HU : Hid (okF k cs ss = false) := by unfold okF; rw [usedTo_false hu 3 hlt, Bool.false_and, Bool.and_false]; rfl
                clear hu
                go_wp2_with (first | (go_at_call 75; refine (c_l01Finite _ _).mono ?_; rintro e w' ⟨rfl, n1, rfl⟩) | (go_at_call 76; refine (c_l01Same _ _ _).mono ?_; rintro e w' ⟨rfl, n1, rfl⟩))
                go_ret
                exact ⟨by rw [HU.out]; rfl, same1 _ _⟩
              · have hu : usB cs (cN k) j = true := by unfold usB; rw [hf, decide_eq_false hm, hz]; rfl
                have HU : Hid (usedTo cs (cN k) (j + 1) = true) := by rw [usedTo, hall.out, hu]; rfl
                clear hu
                go_wp2_with (first | (go_at_call 75; refine (c_l01Finite _ _).mono ?_; rintro e w' ⟨rfl, n1, rfl⟩) | (go_at_call 76; refine (c_l01Same _ _ _).mono ?_; rintro e w' ⟨rfl, n1, rfl⟩))
                go_roundw
                case rel => first | exact ⟨j + 1, by omega, by go_num, HU, same1 _ _⟩ | ((repeat apply Exists.intro); exact ⟨⟨j + 1, by omega, by go_num, HU, same1 _ _⟩, rfl⟩)
                case measure => simp [intOf]; omega
        · obtain rfl : j = 3 := by omega
          have HC3 := hall
          clear hall
          go_wp2
          go_loopw [6] (fun i wr => ∃ j : Nat, j ≤ 2 ∧ i = .int .i64 j ∧ Hid (usedTo ss (sN k) j = true) ∧ ∃ q, wr = w.drewN q) (fun i _ => 2 - (intOf i).toNat)
          case atStart => exact ⟨0, by omega, rfl, rfl, same1 _ _⟩
          case round =>
            obtain ⟨j, hj, rfl, hall, q, rfl⟩ := hrel
            by_cases hlt : j < 2
            · have hcell := HS.out j hlt
              cases hf : finB (nth ss j)
              · have hu : usB ss (sN k) j = false := by unfold usB; rw [hf]; rfl
                have HU : Hid (okF k cs ss = false) := by unfold okF; rw [usedTo_false hu 2 hlt, Bool.and_false, Bool.and_false]; rfl
                clear hu
                go_wp2_with (go_at_call 75; refine (c_l01Finite _ _).mono ?_; rintro e w' ⟨rfl, n1, rfl⟩)
                go_ret
                exact ⟨by rw [HU.out]; rfl, same1 _ _⟩
              · by_cases hm : (j : Int) < (sN k)
                · have hu : usB ss (sN k) j = true := by unfold usB; rw [hf, decide_eq_true hm]; rfl
                  have HU : Hid (usedTo ss (sN k) (j + 1) = true) := by rw [usedTo, hall.out, hu]; rfl
                  clear hu
                  go_wp2_with (go_at_call 75; refine (c_l01Finite _ _).mono ?_; rintro e w' ⟨rfl, n1, rfl⟩)
                  go_roundw
                  case rel => first | exact ⟨j + 1, by omega, by go_num, HU, same1 _ _⟩ | ((repeat apply Exists.intro); exact ⟨⟨j + 1, by omega, by go_num, HU, same1 _ _⟩, rfl⟩)
                  case measure => simp [intOf]; omega
                · cases hz : sameB (nth ss j) 0
                  · have hu : usB ss (sN k) j = false := by unfold usB; rw [hf, decide_eq_false hm, hz]; rfl
                    have HU : Hid (okF k cs ss = false) := by unfold okF; rw [usedTo_false hu 2 hlt, Bool.and_false, Bool.and_false]; rfl
                    clear hu
                    go_wp2_with (first | (go_at_call 75; refine (c_l01Finite _ _).mono ?_; rintro e w' ⟨rfl, n1, rfl⟩) | (go_at_call 76; refine (c_l01Same _ _ _).mono ?_; rintro e w' ⟨rfl, n1, rfl⟩))
                    go_ret
                    exact ⟨by rw [HU.out]; rfl, same1 _ _⟩
                  · have hu : usB ss (sN k) j = true := by unfold usB; rw [hf, decide_eq_false hm, hz]; rfl
                    have HU : Hid (usedTo ss (sN k) (j + 1) = true) := by rw [usedTo, hall.out, hu]; rfl
                    clear hu
                    go_wp2_with (first | (go_at_call 75; refine (c_l01Finite _ _).mono ?_; rintro e w' ⟨rfl, n1, rfl⟩) | (go_at_call 76; refine (c_l01Same _ _ _).mono ?_; rintro e w' ⟨rfl, n1, rfl⟩))
                    go_roundw
                    case rel => first | exact ⟨j + 1, by omega, by go_num, HU, same1 _ _⟩ | ((repeat apply Exists.intro); exact ⟨⟨j + 1, by omega, by go_num, HU, same1 _ _⟩, rfl⟩)
                    case measure => simp [intOf]; omega
            · obtain rfl : j = 2 := by omega
              have HU : Hid (okF k cs ss = true) := by unfold okF; rw [HK.out, HC3.out, hall.out]; rfl
              go_wp2
              go_ret
              exact ⟨by rw [HU.out]; rfl, same1 _ _⟩
end Go.Proofs.YtbdanadmabemdaaDoor
