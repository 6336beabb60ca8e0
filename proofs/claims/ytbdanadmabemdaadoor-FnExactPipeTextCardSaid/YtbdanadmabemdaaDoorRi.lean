
/-
Contracts of the program's tests of rings and of filters.
-/
import Derived.Test.YtbdanadmabemdaaDoorRg
namespace Go.Proofs.YtbdanadmabemdaaDoor
open Go Go.RowKit Fl

theorem c_notFinite (a : Nat) (w : World) : Calls Tryd.prog 80 #[.float .f32 a] w (RetB (!finB a) w) := by
  go_enter Tryd.func80, Tryd.ntmps80
  go_wp2_with (go_at_call 81; refine (c_isFinite _ _).mono ?_; rintro e w' ⟨rfl, n1, rfl⟩)
  go_ret
  exact ⟨rfl, same1 _ _⟩
def RetIdx (b : Bool) (w : World) (e : Ending) (w' : World) : Prop := ∃ i : Int, e = .returned (.int .i64 i) ∧ decide (0 ≤ i) = b ∧ ∃ q, w' = w.drewN q
theorem c_IndexFunc (a : Option Addr) (n c : Nat) (xs : List Nat) (w : World) (h : FS w a n c xs) :
    Calls Tryd.prog 88 #[.slice a n c, .func (.func 80) #[] #[]] w (RetIdx (!finTo xs n) w) := by
  obtain ⟨hl, hcap, hbig, hat⟩ := h
  have HA := Lib.hid hat
  clear hat
  go_enter Tryd.func88, Tryd.ntmps88
  go_wp2
  go_loopw [8] (fun i wr => ∃ k : Nat, k ≤ n ∧ i = .int .i64 k ∧ Hid (finTo xs k = true) ∧ ∃ q, wr = w.drewN q) (fun i _ => n - (intOf i).toNat)
  case atStart => exact ⟨0, by omega, rfl, rfl, 0, rfl⟩
  case round =>
    obtain ⟨k, hk, rfl, hall, q, rfl⟩ := hrel
    by_cases hlt : k < n
    · obtain ⟨b, o, rfl, hbl, hcell⟩ := HA.out (by omega)
      have hc := hcell k hlt
      clear HA hcell
      cases hf : finB (nth xs k)
      · have HU := Lib.hid (finTo_false hf n hlt)
        go_wp2_with (go_at_call 80; refine (c_notFinite _ _).mono ?_; rintro e w' ⟨rfl, n1, rfl⟩)
        go_ret
        exact ⟨k, rfl, by rw [HU.out]; simp, same1 _ _⟩
      · have HU : Hid (finTo xs (k + 1) = true) := by rw [finTo, hall.out, hf]; rfl
        go_wp2_with (go_at_call 80; refine (c_notFinite _ _).mono ?_; rintro e w' ⟨rfl, n1, rfl⟩)
        go_roundw
        case rel => exact ⟨k + 1, by omega, by go_num, HU, same1 _ _⟩
        case measure => simp [intOf]; omega
    · obtain rfl : k = n := by omega
      go_wp2
      go_ret
      exact ⟨-1, rfl, by rw [hall.out]; rfl, same1 _ _⟩
theorem c_ContainsFunc (a : Option Addr) (n c : Nat) (xs : List Nat) (w : World) (h : FS w a n c xs) :
    Calls Tryd.prog 66 #[.slice a n c, .func (.func 80) #[] #[]] w (RetB (!finTo xs n) w) := by
  have H := Lib.hid h
  clear h
  go_enter Tryd.func66, Tryd.ntmps66
  go_wp2_with fail
  refine (c_IndexFunc _ _ _ xs _ H.out).mono ?_
  rintro e w' ⟨i, rfl, hi, n1, rfl⟩
  go_wp2
  go_ret
  exact ⟨by simp, same1 _ _⟩
theorem c_areFinite (a : Option Addr) (n c : Nat) (xs : List Nat) (w : World) (h : FS w a n c xs) :
    Calls Tryd.prog 57 #[.slice a n c] w (RetB (finTo xs n) w) := by
  have H := Lib.hid h
  clear h
  go_enter Tryd.func57, Tryd.ntmps57
  go_wp2_with (go_at_call 66; refine (c_ContainsFunc _ _ _ xs _ H.out).mono ?_; rintro e w' ⟨rfl, n1, rfl⟩)
  go_ret
  exact ⟨by simp, same1 _ _⟩
theorem c_isRing (a : Option Addr) (n c : Nat) (xs : List Nat) (i : Int) (w : World) (h : FS w a n c xs) :
    Calls Tryd.prog 55 #[.agg #[.slice a n c, .int .i64 i]] w (RetV (.bool (ringB n i && finTo xs n)) w) := by
  have hn : n ≤ 9223372036854775807 := Nat.le_trans h.cap h.big
  have H := Lib.hid h
  have HV : Hid (∀ w, Calls Tryd.prog 79 #[.agg #[.slice a n c, .int .i64 i]] w (RetV (.bool (ringB n i)) w)) := fun w => c_ValidRing a n c i w hn
  clear h hn
  cases hr : ringB n i
  · rw [hr] at HV
    go_enter Tryd.func55, Tryd.ntmps55
    go_wp2_with fail
    refine (HV.out _).mono ?_
    rintro e w1 ⟨rfl, hb1⟩
    obtain ⟨hc1, hf1, hz1⟩ := bcell hb1
    try simp at hz1
    have zb1 : w.heap.size ≤ w1.heap.size := by omega
    try (have z1_0 : w.heap.size < w1.heap.size := by omega)
    try (have z1_1 : w.heap.size + 1 < w1.heap.size := by omega)
    try (have z1_2 : w.heap.size + 1 + 1 < w1.heap.size := by omega)
    try (have z1_3 : w.heap.size + 1 + 1 + 1 < w1.heap.size := by omega)
    have b1 : Below w.heap.size w w1 := Below.trans (by (repeat (first | (with_reducible refine Below.drewN ?_) | (with_reducible refine Below.drew ?_) | ((with_reducible refine Below.alloc ?_ ?_ _); rotate_left; (first | omega | (simp <;> omega))) | ((with_reducible refine Below.setCell ?_ ?_ _); rotate_left; (first | omega | (simp <;> omega))) | (with_reducible exact Below.refl _ _) | (with_reducible assumption)))) (hb1.mono (by first | omega | (simp <;> omega)))
    go_wp2
    go_ret
    exact ⟨rfl, by (repeat (first | (with_reducible refine Below.drewN ?_) | (with_reducible refine Below.drew ?_) | ((with_reducible refine Below.alloc ?_ ?_ _); rotate_left; (first | omega | (simp <;> omega))) | ((with_reducible refine Below.setCell ?_ ?_ _); rotate_left; (first | omega | (simp <;> omega))) | (with_reducible exact Below.refl _ _) | (with_reducible assumption)))⟩
  · rw [hr] at HV
    go_enter Tryd.func55, Tryd.ntmps55
    go_wp2_with fail
    refine (HV.out _).mono ?_
    rintro e w1 ⟨rfl, hb1⟩
    obtain ⟨hc1, hf1, hz1⟩ := bcell hb1
    try simp at hz1
    have zb1 : w.heap.size ≤ w1.heap.size := by omega
    try (have z1_0 : w.heap.size < w1.heap.size := by omega)
    try (have z1_1 : w.heap.size + 1 < w1.heap.size := by omega)
    try (have z1_2 : w.heap.size + 1 + 1 < w1.heap.size := by omega)
    try (have z1_3 : w.heap.size + 1 + 1 + 1 < w1.heap.size := by omega)
    have b1 : Below w.heap.size w w1 := Below.trans (by (repeat (first | (with_reducible refine Below.drewN ?_) | (with_reducible refine Below.drew ?_) | ((with_reducible refine Below.alloc ?_ ?_ _); rotate_left; (first | omega | (simp <;> omega))) | ((with_reducible refine Below.setCell ?_ ?_ _); rotate_left; (first | omega | (simp <;> omega))) | (with_reducible exact Below.refl _ _) | (with_reducible assumption)))) (hb1.mono (by first | omega | (simp <;> omega)))
    go_wp2_with (go_at_call 57; refine (c_areFinite _ _ _ xs _ (FS.below (B := w.heap.size) H.out (by (repeat (first | (with_reducible refine Below.drewN ?_) | (with_reducible refine Below.drew ?_) | ((with_reducible refine Below.alloc ?_ ?_ _); rotate_left; (first | omega | (simp <;> omega))) | ((with_reducible refine Below.setCell ?_ ?_ _); rotate_left; (first | omega | (simp <;> omega))) | (with_reducible exact Below.refl _ _) | (with_reducible assumption)))) (Nat.le_refl _))).mono ?_; rintro e w' ⟨rfl, n1, rfl⟩)
    go_ret
    exact ⟨rfl, by (repeat (first | (with_reducible refine Below.drewN ?_) | (with_reducible refine Below.drew ?_) | ((with_reducible refine Below.alloc ?_ ?_ _); rotate_left; (first | omega | (simp <;> omega))) | ((with_reducible refine Below.setCell ?_ ?_ _); rotate_left; (first | omega | (simp <;> omega))) | (with_reducible exact Below.refl _ _) | (with_reducible assumption)))⟩
theorem c_isFilter (k : Int) (c0 c1 c2 s0 s1 : Nat) (kd : Int) (w : World) :
    Calls Tryd.prog 56 #[.agg #[.int .i64 k, .float .f32 c0, .float .f32 c1, .float .f32 c2, .float .f32 s0, .float .f32 s1], .int .i64 kd] w (RetV (.bool (okF k [c0, c1, c2] [s0, s1] && (k == kd))) w) := by
  have HV : Hid (∀ w, Calls Tryd.prog 59 #[.agg #[.int .i64 k, .float .f32 c0, .float .f32 c1, .float .f32 c2, .float .f32 s0, .float .f32 s1]] w (RetBA (okF k [c0, c1, c2] [s0, s1]) w)) := fun w => c_ValidFilter k c0 c1 c2 s0 s1 w
  cases hr : okF k [c0, c1, c2] [s0, s1]
  all_goals
    rw [hr] at HV
    go_enter Tryd.func56, Tryd.ntmps56
    go_wp2_with fail
    refine (HV.out _).mono ?_
    rintro e w1 ⟨rfl, hb1⟩
    obtain ⟨hc1, hf1, hz1⟩ := bcell hb1
    try simp at hz1
    have zb1 : w.heap.size ≤ w1.heap.size := by omega
    try (have z1_0 : w.heap.size < w1.heap.size := by omega)
    try (have z1_1 : w.heap.size + 1 < w1.heap.size := by omega)
    try (have z1_2 : w.heap.size + 1 + 1 < w1.heap.size := by omega)
    try (have z1_3 : w.heap.size + 1 + 1 + 1 < w1.heap.size := by omega)
    have b1 : Below w.heap.size w w1 := Below.trans (by (repeat (first | (with_reducible refine Below.drewN ?_) | (with_reducible refine Below.drew ?_) | ((with_reducible refine Below.alloc ?_ ?_ _); rotate_left; (first | omega | (simp <;> omega))) | ((with_reducible refine Below.setCell ?_ ?_ _); rotate_left; (first | omega | (simp <;> omega))) | (with_reducible exact Below.refl _ _) | (with_reducible assumption)))) (hb1.mono (by first | omega | (simp <;> omega)))
    go_wp2
    go_ret
    exact ⟨by first | rfl | simp, by (repeat (first | (with_reducible refine Below.drewN ?_) | (with_reducible refine Below.drew ?_) | ((with_reducible refine Below.alloc ?_ ?_ _); rotate_left; (first | omega | (simp <;> omega))) | ((with_reducible refine Below.setCell ?_ ?_ _); rotate_left; (first | omega | (simp <;> omega))) | (with_reducible exact Below.refl _ _) | (with_reducible assumption)))⟩
end Go.Proofs.YtbdanadmabemdaaDoor
