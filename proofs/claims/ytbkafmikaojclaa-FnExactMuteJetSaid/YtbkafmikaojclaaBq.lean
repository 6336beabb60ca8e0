
/-
Contracts of the program's tests whether bows and jets are silent.
-/
import Derived.Test.YtbkafmikaojclaaBo
import Derived.Test.YtbkafmikaojclaaQu
namespace Go.Proofs.Ytbkafmikaojclaa
open Go Go.RowKit Fl
theorem valBow_r1 {n1 : Nat} {xs1 : List Nat} {i1 : Int} {n2 : Nat} {xs2 : List Nat} {i2 : Int} {k1 : Int} {f1_0 f1_1 f1_2 f1_3 f1_4 : Nat} {x1 : Nat} {x2 : Nat} (hv : valBow n1 xs1 i1 n2 xs2 i2 k1 f1_0 f1_1 f1_2 f1_3 f1_4 x1 x2 = true) : ringB n1 i1 = true := by
  unfold valBow at hv
  simp only [Bool.and_eq_true] at hv
  exact hv.1.1.1.1
theorem valBow_r2 {n1 : Nat} {xs1 : List Nat} {i1 : Int} {n2 : Nat} {xs2 : List Nat} {i2 : Int} {k1 : Int} {f1_0 f1_1 f1_2 f1_3 f1_4 : Nat} {x1 : Nat} {x2 : Nat} (hv : valBow n1 xs1 i1 n2 xs2 i2 k1 f1_0 f1_1 f1_2 f1_3 f1_4 x1 x2 = true) : ringB n2 i2 = true := by
  unfold valBow at hv
  simp only [Bool.and_eq_true] at hv
  exact hv.1.1.2.1

theorem valJet_r1 {n1 : Nat} {xs1 : List Nat} {i1 : Int} {n2 : Nat} {xs2 : List Nat} {i2 : Int} {k1 : Int} {f1_0 f1_1 f1_2 f1_3 f1_4 : Nat} {k2 : Int} {f2_0 f2_1 f2_2 f2_3 f2_4 : Nat} {x1 : Nat} {x2 : Nat} (hv : valJet n1 xs1 i1 n2 xs2 i2 k1 f1_0 f1_1 f1_2 f1_3 f1_4 k2 f2_0 f2_1 f2_2 f2_3 f2_4 x1 x2 = true) : ringB n1 i1 = true := by
  unfold valJet at hv
  simp only [Bool.and_eq_true] at hv
  exact hv.1.1.1.1.1
theorem valJet_r2 {n1 : Nat} {xs1 : List Nat} {i1 : Int} {n2 : Nat} {xs2 : List Nat} {i2 : Int} {k1 : Int} {f1_0 f1_1 f1_2 f1_3 f1_4 : Nat} {k2 : Int} {f2_0 f2_1 f2_2 f2_3 f2_4 : Nat} {x1 : Nat} {x2 : Nat} (hv : valJet n1 xs1 i1 n2 xs2 i2 k1 f1_0 f1_1 f1_2 f1_3 f1_4 k2 f2_0 f2_1 f2_2 f2_3 f2_4 x1 x2 = true) : ringB n2 i2 = true := by
  unfold valJet at hv
  simp only [Bool.and_eq_true] at hv
  exact hv.1.1.1.2.1

set_option maxHeartbeats 1000000 in
theorem c_IsSilentBow_ok (a1 : Option Addr) (n1 c1 : Nat) (xs1 : List Nat) (i1 : Int) (a2 : Option Addr) (n2 c2 : Nat) (xs2 : List Nat) (i2 : Int) (k1 : Int) (f1_0 f1_1 f1_2 f1_3 f1_4 : Nat) (x1 : Nat) (x2 : Nat) (w : World) (h_1 : FS w a1 n1 c1 xs1) (h_2 : FS w a2 n2 c2 xs2) (hv : valBow n1 xs1 i1 n2 xs2 i2 k1 f1_0 f1_1 f1_2 f1_3 f1_4 x1 x2 = true) :
    Calls Try.prog 51 #[.agg #[.slice a1 n1 c1, .int .i64 i1, .slice a2 n2 c2, .int .i64 i2, .int .i64 k1, .float .f32 f1_0, .float .f32 f1_1, .float .f32 f1_2, .float .f32 f1_3, .float .f32 f1_4, .float .f32 x1, .float .f32 x2]] w (RetV (.tuple #[.bool (((zeroTo xs1 n1) && (zeroTo xs2 n2)) && (stillB f1_3 f1_4)), .int .i64 0]) w) := by
  have hr1 : ringB n1 i1 = true := valBow_r1 hv
  have hr2 : ringB n2 i2 = true := valBow_r2 hv
  have K1 : Hid (∀ W, Below w.heap.size w W → Calls Try.prog 39 #[.agg #[.slice a1 n1 c1, .int .i64 i1, .slice a2 n2 c2, .int .i64 i2, .int .i64 k1, .float .f32 f1_0, .float .f32 f1_1, .float .f32 f1_2, .float .f32 f1_3, .float .f32 f1_4, .float .f32 x1, .float .f32 x2]] W (RetV (.bool true) W)) := fun W hb => hv ▸ c_ValidBow _ _ _ _ _ _ _ _ _ _ _ _ _ _ _ _ _ _ W (h_1.below hb (Nat.le_refl _)) (h_2.below hb (Nat.le_refl _))
  have K2 : Hid (∀ W, Below w.heap.size w W → Calls Try.prog 105 #[.agg #[.slice a1 n1 c1, .int .i64 i1]] W (RetV (.bool (zeroTo xs1 n1)) W)) := fun W hb => c_isQuiet _ _ _ _ _ W (h_1.below hb (Nat.le_refl _)) hr1
  have K3 : Hid (∀ W, Below w.heap.size w W → Calls Try.prog 105 #[.agg #[.slice a2 n2 c2, .int .i64 i2]] W (RetV (.bool (zeroTo xs2 n2)) W)) := fun W hb => c_isQuiet _ _ _ _ _ W (h_2.below hb (Nat.le_refl _)) hr2
  have K4 : Hid (∀ W, Calls Try.prog 106 #[.agg #[.int .i64 k1, .float .f32 f1_0, .float .f32 f1_1, .float .f32 f1_2, .float .f32 f1_3, .float .f32 f1_4]] W (RetV (.bool (stillB f1_3 f1_4)) W)) := fun W => c_isStill _ _ _ _ _ _ W
  clear hv h_1 h_2 hr1 hr2
  rcases (Bool.eq_false_or_eq_true (zeroTo xs1 n1)).symm with h2 | h2
  · rw [h2] at K2
    have e : (((zeroTo xs1 n1) && (zeroTo xs2 n2)) && (stillB f1_3 f1_4)) = false := by rw [h2]; simp
    rw [e]
    clear e h2
    go_enter Try.func51, Try.ntmps51
    go_wp2_with fail
    refine (K1.out _ (by (repeat (first | (with_reducible refine Below.drewN ?_) | (with_reducible refine Below.drew ?_) | ((with_reducible refine Below.alloc ?_ ?_ _); rotate_left; (first | omega | (simp <;> omega))) | ((with_reducible refine Below.setCell ?_ ?_ _); rotate_left; (first | omega | (simp <;> omega))) | (with_reducible exact Below.refl _ _) | (with_reducible assumption))))).mono ?_
    rintro e w1 ⟨rfl, hb1⟩
    obtain ⟨hc1, hf1, hz1⟩ := bcell hb1
    try simp at hz1
    have zb1 : w.heap.size ≤ w1.heap.size := by omega
    try (have z1_0 : w.heap.size < w1.heap.size := by omega)
    try (have z1_1 : w.heap.size + 1 < w1.heap.size := by omega)
    try (have z1_2 : w.heap.size + 1 + 1 < w1.heap.size := by omega)
    try (have z1_3 : w.heap.size + 1 + 1 + 1 < w1.heap.size := by omega)
    have b1 : Below w.heap.size w w1 := Below.trans (by (repeat (first | (with_reducible refine Below.drewN ?_) | (with_reducible refine Below.drew ?_) | ((with_reducible refine Below.alloc ?_ ?_ _); rotate_left; (first | omega | (simp <;> omega))) | ((with_reducible refine Below.setCell ?_ ?_ _); rotate_left; (first | omega | (simp <;> omega))) | (with_reducible exact Below.refl _ _) | (with_reducible assumption)))) (hb1.mono (by first | omega | (simp <;> omega)))
    go_wp2_with fail
    refine (K2.out _ (by (repeat (first | (with_reducible refine Below.drewN ?_) | (with_reducible refine Below.drew ?_) | ((with_reducible refine Below.alloc ?_ ?_ _); rotate_left; (first | omega | (simp <;> omega))) | ((with_reducible refine Below.setCell ?_ ?_ _); rotate_left; (first | omega | (simp <;> omega))) | (with_reducible exact Below.refl _ _) | (with_reducible assumption))))).mono ?_
    rintro e w2 ⟨rfl, hb2⟩
    obtain ⟨hc2, hf2, hz2⟩ := bcell hb2
    try simp at hz2
    have zb2 : w.heap.size ≤ w2.heap.size := by omega
    try (have z2_0 : w.heap.size < w2.heap.size := by omega)
    try (have z2_1 : w.heap.size + 1 < w2.heap.size := by omega)
    try (have z2_2 : w.heap.size + 1 + 1 < w2.heap.size := by omega)
    try (have z2_3 : w.heap.size + 1 + 1 + 1 < w2.heap.size := by omega)
    have b2 : Below w.heap.size w w2 := Below.trans (by (repeat (first | (with_reducible refine Below.drewN ?_) | (with_reducible refine Below.drew ?_) | ((with_reducible refine Below.alloc ?_ ?_ _); rotate_left; (first | omega | (simp <;> omega))) | ((with_reducible refine Below.setCell ?_ ?_ _); rotate_left; (first | omega | (simp <;> omega))) | (with_reducible exact Below.refl _ _) | (with_reducible assumption)))) (hb2.mono (by first | omega | (simp <;> omega)))
    go_wp2
    go_ret2
    exact ⟨rfl, by (repeat (first | (with_reducible refine Below.drewN ?_) | (with_reducible refine Below.drew ?_) | ((with_reducible refine Below.alloc ?_ ?_ _); rotate_left; (first | omega | (simp <;> omega))) | ((with_reducible refine Below.setCell ?_ ?_ _); rotate_left; (first | omega | (simp <;> omega))) | (with_reducible exact Below.refl _ _) | (with_reducible assumption)))⟩

  rw [h2] at K2
  rcases (Bool.eq_false_or_eq_true (zeroTo xs2 n2)).symm with h3 | h3
  · rw [h3] at K3
    have e : (((zeroTo xs1 n1) && (zeroTo xs2 n2)) && (stillB f1_3 f1_4)) = false := by rw [h2, h3]; simp
    rw [e]
    clear e h2 h3
    go_enter Try.func51, Try.ntmps51
    go_wp2_with fail
    refine (K1.out _ (by (repeat (first | (with_reducible refine Below.drewN ?_) | (with_reducible refine Below.drew ?_) | ((with_reducible refine Below.alloc ?_ ?_ _); rotate_left; (first | omega | (simp <;> omega))) | ((with_reducible refine Below.setCell ?_ ?_ _); rotate_left; (first | omega | (simp <;> omega))) | (with_reducible exact Below.refl _ _) | (with_reducible assumption))))).mono ?_
    rintro e w1 ⟨rfl, hb1⟩
    obtain ⟨hc1, hf1, hz1⟩ := bcell hb1
    try simp at hz1
    have zb1 : w.heap.size ≤ w1.heap.size := by omega
    try (have z1_0 : w.heap.size < w1.heap.size := by omega)
    try (have z1_1 : w.heap.size + 1 < w1.heap.size := by omega)
    try (have z1_2 : w.heap.size + 1 + 1 < w1.heap.size := by omega)
    try (have z1_3 : w.heap.size + 1 + 1 + 1 < w1.heap.size := by omega)
    have b1 : Below w.heap.size w w1 := Below.trans (by (repeat (first | (with_reducible refine Below.drewN ?_) | (with_reducible refine Below.drew ?_) | ((with_reducible refine Below.alloc ?_ ?_ _); rotate_left; (first | omega | (simp <;> omega))) | ((with_reducible refine Below.setCell ?_ ?_ _); rotate_left; (first | omega | (simp <;> omega))) | (with_reducible exact Below.refl _ _) | (with_reducible assumption)))) (hb1.mono (by first | omega | (simp <;> omega)))
    go_wp2_with fail
    refine (K2.out _ (by (repeat (first | (with_reducible refine Below.drewN ?_) | (with_reducible refine Below.drew ?_) | ((with_reducible refine Below.alloc ?_ ?_ _); rotate_left; (first | omega | (simp <;> omega))) | ((with_reducible refine Below.setCell ?_ ?_ _); rotate_left; (first | omega | (simp <;> omega))) | (with_reducible exact Below.refl _ _) | (with_reducible assumption))))).mono ?_
    rintro e w2 ⟨rfl, hb2⟩
    obtain ⟨hc2, hf2, hz2⟩ := bcell hb2
    try simp at hz2
    have zb2 : w.heap.size ≤ w2.heap.size := by omega
    try (have z2_0 : w.heap.size < w2.heap.size := by omega)
    try (have z2_1 : w.heap.size + 1 < w2.heap.size := by omega)
    try (have z2_2 : w.heap.size + 1 + 1 < w2.heap.size := by omega)
    try (have z2_3 : w.heap.size + 1 + 1 + 1 < w2.heap.size := by omega)
    have b2 : Below w.heap.size w w2 := Below.trans (by (repeat (first | (with_reducible refine Below.drewN ?_) | (with_reducible refine Below.drew ?_) | ((with_reducible refine Below.alloc ?_ ?_ _); rotate_left; (first | omega | (simp <;> omega))) | ((with_reducible refine Below.setCell ?_ ?_ _); rotate_left; (first | omega | (simp <;> omega))) | (with_reducible exact Below.refl _ _) | (with_reducible assumption)))) (hb2.mono (by first | omega | (simp <;> omega)))
    go_wp2_with fail
    refine (K3.out _ (by (repeat (first | (with_reducible refine Below.drewN ?_) | (with_reducible refine Below.drew ?_) | ((with_reducible refine Below.alloc ?_ ?_ _); rotate_left; (first | omega | (simp <;> omega))) | ((with_reducible refine Below.setCell ?_ ?_ _); rotate_left; (first | omega | (simp <;> omega))) | (with_reducible exact Below.refl _ _) | (with_reducible assumption))))).mono ?_
    rintro e w3 ⟨rfl, hb3⟩
    obtain ⟨hc3, hf3, hz3⟩ := bcell hb3
    try simp at hz3
    have zb3 : w.heap.size ≤ w3.heap.size := by omega
    try (have z3_0 : w.heap.size < w3.heap.size := by omega)
    try (have z3_1 : w.heap.size + 1 < w3.heap.size := by omega)
    try (have z3_2 : w.heap.size + 1 + 1 < w3.heap.size := by omega)
    try (have z3_3 : w.heap.size + 1 + 1 + 1 < w3.heap.size := by omega)
    have b3 : Below w.heap.size w w3 := Below.trans (by (repeat (first | (with_reducible refine Below.drewN ?_) | (with_reducible refine Below.drew ?_) | ((with_reducible refine Below.alloc ?_ ?_ _); rotate_left; (first | omega | (simp <;> omega))) | ((with_reducible refine Below.setCell ?_ ?_ _); rotate_left; (first | omega | (simp <;> omega))) | (with_reducible exact Below.refl _ _) | (with_reducible assumption)))) (hb3.mono (by first | omega | (simp <;> omega)))
    go_wp2
    go_ret2
    exact ⟨rfl, by (repeat (first | (with_reducible refine Below.drewN ?_) | (with_reducible refine Below.drew ?_) | ((with_reducible refine Below.alloc ?_ ?_ _); rotate_left; (first | omega | (simp <;> omega))) | ((with_reducible refine Below.setCell ?_ ?_ _); rotate_left; (first | omega | (simp <;> omega))) | (with_reducible exact Below.refl _ _) | (with_reducible assumption)))⟩

  rw [h3] at K3
  have e : (((zeroTo xs1 n1) && (zeroTo xs2 n2)) && (stillB f1_3 f1_4)) = (stillB f1_3 f1_4) := by rw [h2, h3]; simp
  rw [e]
  clear e h2 h3
  go_enter Try.func51, Try.ntmps51
  go_wp2_with fail
  refine (K1.out _ (by (repeat (first | (with_reducible refine Below.drewN ?_) | (with_reducible refine Below.drew ?_) | ((with_reducible refine Below.alloc ?_ ?_ _); rotate_left; (first | omega | (simp <;> omega))) | ((with_reducible refine Below.setCell ?_ ?_ _); rotate_left; (first | omega | (simp <;> omega))) | (with_reducible exact Below.refl _ _) | (with_reducible assumption))))).mono ?_
  rintro e w1 ⟨rfl, hb1⟩
  obtain ⟨hc1, hf1, hz1⟩ := bcell hb1
  try simp at hz1
  have zb1 : w.heap.size ≤ w1.heap.size := by omega
  try (have z1_0 : w.heap.size < w1.heap.size := by omega)
  try (have z1_1 : w.heap.size + 1 < w1.heap.size := by omega)
  try (have z1_2 : w.heap.size + 1 + 1 < w1.heap.size := by omega)
  try (have z1_3 : w.heap.size + 1 + 1 + 1 < w1.heap.size := by omega)
  have b1 : Below w.heap.size w w1 := Below.trans (by (repeat (first | (with_reducible refine Below.drewN ?_) | (with_reducible refine Below.drew ?_) | ((with_reducible refine Below.alloc ?_ ?_ _); rotate_left; (first | omega | (simp <;> omega))) | ((with_reducible refine Below.setCell ?_ ?_ _); rotate_left; (first | omega | (simp <;> omega))) | (with_reducible exact Below.refl _ _) | (with_reducible assumption)))) (hb1.mono (by first | omega | (simp <;> omega)))
  go_wp2_with fail
  refine (K2.out _ (by (repeat (first | (with_reducible refine Below.drewN ?_) | (with_reducible refine Below.drew ?_) | ((with_reducible refine Below.alloc ?_ ?_ _); rotate_left; (first | omega | (simp <;> omega))) | ((with_reducible refine Below.setCell ?_ ?_ _); rotate_left; (first | omega | (simp <;> omega))) | (with_reducible exact Below.refl _ _) | (with_reducible assumption))))).mono ?_
  rintro e w2 ⟨rfl, hb2⟩
  obtain ⟨hc2, hf2, hz2⟩ := bcell hb2
  try simp at hz2
  have zb2 : w.heap.size ≤ w2.heap.size := by omega
  try (have z2_0 : w.heap.size < w2.heap.size := by omega)
  try (have z2_1 : w.heap.size + 1 < w2.heap.size := by omega)
  try (have z2_2 : w.heap.size + 1 + 1 < w2.heap.size := by omega)
  try (have z2_3 : w.heap.size + 1 + 1 + 1 < w2.heap.size := by omega)
  have b2 : Below w.heap.size w w2 := Below.trans (by (repeat (first | (with_reducible refine Below.drewN ?_) | (with_reducible refine Below.drew ?_) | ((with_reducible refine Below.alloc ?_ ?_ _); rotate_left; (first | omega | (simp <;> omega))) | ((with_reducible refine Below.setCell ?_ ?_ _); rotate_left; (first | omega | (simp <;> omega))) | (with_reducible exact Below.refl _ _) | (with_reducible assumption)))) (hb2.mono (by first | omega | (simp <;> omega)))
  go_wp2_with fail
  refine (K3.out _ (by (repeat (first | (with_reducible refine Below.drewN ?_) | (with_reducible refine Below.drew ?_) | ((with_reducible refine Below.alloc ?_ ?_ _); rotate_left; (first | omega | (simp <;> omega))) | ((with_reducible refine Below.setCell ?_ ?_ _); rotate_left; (first | omega | (simp <;> omega))) | (with_reducible exact Below.refl _ _) | (with_reducible assumption))))).mono ?_
  rintro e w3 ⟨rfl, hb3⟩
  obtain ⟨hc3, hf3, hz3⟩ := bcell hb3
  try simp at hz3
  have zb3 : w.heap.size ≤ w3.heap.size := by omega
  try (have z3_0 : w.heap.size < w3.heap.size := by omega)
  try (have z3_1 : w.heap.size + 1 < w3.heap.size := by omega)
  try (have z3_2 : w.heap.size + 1 + 1 < w3.heap.size := by omega)
  try (have z3_3 : w.heap.size + 1 + 1 + 1 < w3.heap.size := by omega)
  have b3 : Below w.heap.size w w3 := Below.trans (by (repeat (first | (with_reducible refine Below.drewN ?_) | (with_reducible refine Below.drew ?_) | ((with_reducible refine Below.alloc ?_ ?_ _); rotate_left; (first | omega | (simp <;> omega))) | ((with_reducible refine Below.setCell ?_ ?_ _); rotate_left; (first | omega | (simp <;> omega))) | (with_reducible exact Below.refl _ _) | (with_reducible assumption)))) (hb3.mono (by first | omega | (simp <;> omega)))
  go_wp2_with fail
  refine (K4.out _).mono ?_
  rintro e w4 ⟨rfl, hb4⟩
  obtain ⟨hc4, hf4, hz4⟩ := bcell hb4
  try simp at hz4
  have zb4 : w.heap.size ≤ w4.heap.size := by omega
  try (have z4_0 : w.heap.size < w4.heap.size := by omega)
  try (have z4_1 : w.heap.size + 1 < w4.heap.size := by omega)
  try (have z4_2 : w.heap.size + 1 + 1 < w4.heap.size := by omega)
  try (have z4_3 : w.heap.size + 1 + 1 + 1 < w4.heap.size := by omega)
  have b4 : Below w.heap.size w w4 := Below.trans (by (repeat (first | (with_reducible refine Below.drewN ?_) | (with_reducible refine Below.drew ?_) | ((with_reducible refine Below.alloc ?_ ?_ _); rotate_left; (first | omega | (simp <;> omega))) | ((with_reducible refine Below.setCell ?_ ?_ _); rotate_left; (first | omega | (simp <;> omega))) | (with_reducible exact Below.refl _ _) | (with_reducible assumption)))) (hb4.mono (by first | omega | (simp <;> omega)))
  go_wp2
  go_ret2
  exact ⟨rfl, by (repeat (first | (with_reducible refine Below.drewN ?_) | (with_reducible refine Below.drew ?_) | ((with_reducible refine Below.alloc ?_ ?_ _); rotate_left; (first | omega | (simp <;> omega))) | ((with_reducible refine Below.setCell ?_ ?_ _); rotate_left; (first | omega | (simp <;> omega))) | (with_reducible exact Below.refl _ _) | (with_reducible assumption)))⟩

set_option maxHeartbeats 1000000 in
theorem c_IsSilentBow_no (a1 : Option Addr) (n1 c1 : Nat) (xs1 : List Nat) (i1 : Int) (a2 : Option Addr) (n2 c2 : Nat) (xs2 : List Nat) (i2 : Int) (k1 : Int) (f1_0 f1_1 f1_2 f1_3 f1_4 : Nat) (x1 : Nat) (x2 : Nat) (w : World) (h_1 : FS w a1 n1 c1 xs1) (h_2 : FS w a2 n2 c2 xs2) (hv : valBow n1 xs1 i1 n2 xs2 i2 k1 f1_0 f1_1 f1_2 f1_3 f1_4 x1 x2 = false) :
    Calls Try.prog 51 #[.agg #[.slice a1 n1 c1, .int .i64 i1, .slice a2 n2 c2, .int .i64 i2, .int .i64 k1, .float .f32 f1_0, .float .f32 f1_1, .float .f32 f1_2, .float .f32 f1_3, .float .f32 f1_4, .float .f32 x1, .float .f32 x2]] w (RetV (.tuple #[.bool false, .int .i64 1]) w) := by
  have K1 : Hid (∀ W, Below w.heap.size w W → Calls Try.prog 39 #[.agg #[.slice a1 n1 c1, .int .i64 i1, .slice a2 n2 c2, .int .i64 i2, .int .i64 k1, .float .f32 f1_0, .float .f32 f1_1, .float .f32 f1_2, .float .f32 f1_3, .float .f32 f1_4, .float .f32 x1, .float .f32 x2]] W (RetV (.bool false) W)) := fun W hb => hv ▸ c_ValidBow _ _ _ _ _ _ _ _ _ _ _ _ _ _ _ _ _ _ W (h_1.below hb (Nat.le_refl _)) (h_2.below hb (Nat.le_refl _))
  clear hv h_1 h_2
  go_enter Try.func51, Try.ntmps51
  go_wp2_with fail
  refine (K1.out _ (by (repeat (first | (with_reducible refine Below.drewN ?_) | (with_reducible refine Below.drew ?_) | ((with_reducible refine Below.alloc ?_ ?_ _); rotate_left; (first | omega | (simp <;> omega))) | ((with_reducible refine Below.setCell ?_ ?_ _); rotate_left; (first | omega | (simp <;> omega))) | (with_reducible exact Below.refl _ _) | (with_reducible assumption))))).mono ?_
  rintro e w1 ⟨rfl, hb1⟩
  obtain ⟨hc1, hf1, hz1⟩ := bcell hb1
  try simp at hz1
  have zb1 : w.heap.size ≤ w1.heap.size := by omega
  try (have z1_0 : w.heap.size < w1.heap.size := by omega)
  try (have z1_1 : w.heap.size + 1 < w1.heap.size := by omega)
  try (have z1_2 : w.heap.size + 1 + 1 < w1.heap.size := by omega)
  try (have z1_3 : w.heap.size + 1 + 1 + 1 < w1.heap.size := by omega)
  have b1 : Below w.heap.size w w1 := Below.trans (by (repeat (first | (with_reducible refine Below.drewN ?_) | (with_reducible refine Below.drew ?_) | ((with_reducible refine Below.alloc ?_ ?_ _); rotate_left; (first | omega | (simp <;> omega))) | ((with_reducible refine Below.setCell ?_ ?_ _); rotate_left; (first | omega | (simp <;> omega))) | (with_reducible exact Below.refl _ _) | (with_reducible assumption)))) (hb1.mono (by first | omega | (simp <;> omega)))
  go_wp2
  go_ret2
  exact ⟨rfl, by (repeat (first | (with_reducible refine Below.drewN ?_) | (with_reducible refine Below.drew ?_) | ((with_reducible refine Below.alloc ?_ ?_ _); rotate_left; (first | omega | (simp <;> omega))) | ((with_reducible refine Below.setCell ?_ ?_ _); rotate_left; (first | omega | (simp <;> omega))) | (with_reducible exact Below.refl _ _) | (with_reducible assumption)))⟩


set_option maxHeartbeats 1000000 in
theorem c_IsSilentJet_ok (a1 : Option Addr) (n1 c1 : Nat) (xs1 : List Nat) (i1 : Int) (a2 : Option Addr) (n2 c2 : Nat) (xs2 : List Nat) (i2 : Int) (k1 : Int) (f1_0 f1_1 f1_2 f1_3 f1_4 : Nat) (k2 : Int) (f2_0 f2_1 f2_2 f2_3 f2_4 : Nat) (x1 : Nat) (x2 : Nat) (w : World) (h_1 : FS w a1 n1 c1 xs1) (h_2 : FS w a2 n2 c2 xs2) (hv : valJet n1 xs1 i1 n2 xs2 i2 k1 f1_0 f1_1 f1_2 f1_3 f1_4 k2 f2_0 f2_1 f2_2 f2_3 f2_4 x1 x2 = true) :
    Calls Try.prog 53 #[.agg #[.slice a1 n1 c1, .int .i64 i1, .slice a2 n2 c2, .int .i64 i2, .int .i64 k1, .float .f32 f1_0, .float .f32 f1_1, .float .f32 f1_2, .float .f32 f1_3, .float .f32 f1_4, .int .i64 k2, .float .f32 f2_0, .float .f32 f2_1, .float .f32 f2_2, .float .f32 f2_3, .float .f32 f2_4, .float .f32 x1, .float .f32 x2]] w (RetV (.tuple #[.bool ((((zeroTo xs1 n1) && (zeroTo xs2 n2)) && (stillB f1_3 f1_4)) && (stillB f2_3 f2_4)), .int .i64 0]) w) := by
  have hr1 : ringB n1 i1 = true := valJet_r1 hv
  have hr2 : ringB n2 i2 = true := valJet_r2 hv
  have K1 : Hid (∀ W, Below w.heap.size w W → Calls Try.prog 41 #[.agg #[.slice a1 n1 c1, .int .i64 i1, .slice a2 n2 c2, .int .i64 i2, .int .i64 k1, .float .f32 f1_0, .float .f32 f1_1, .float .f32 f1_2, .float .f32 f1_3, .float .f32 f1_4, .int .i64 k2, .float .f32 f2_0, .float .f32 f2_1, .float .f32 f2_2, .float .f32 f2_3, .float .f32 f2_4, .float .f32 x1, .float .f32 x2]] W (RetV (.bool true) W)) := fun W hb => hv ▸ c_ValidJet _ _ _ _ _ _ _ _ _ _ _ _ _ _ _ _ _ _ _ _ _ _ _ _ W (h_1.below hb (Nat.le_refl _)) (h_2.below hb (Nat.le_refl _))
  have K2 : Hid (∀ W, Below w.heap.size w W → Calls Try.prog 105 #[.agg #[.slice a1 n1 c1, .int .i64 i1]] W (RetV (.bool (zeroTo xs1 n1)) W)) := fun W hb => c_isQuiet _ _ _ _ _ W (h_1.below hb (Nat.le_refl _)) hr1
  have K3 : Hid (∀ W, Below w.heap.size w W → Calls Try.prog 105 #[.agg #[.slice a2 n2 c2, .int .i64 i2]] W (RetV (.bool (zeroTo xs2 n2)) W)) := fun W hb => c_isQuiet _ _ _ _ _ W (h_2.below hb (Nat.le_refl _)) hr2
  have K4 : Hid (∀ W, Calls Try.prog 106 #[.agg #[.int .i64 k1, .float .f32 f1_0, .float .f32 f1_1, .float .f32 f1_2, .float .f32 f1_3, .float .f32 f1_4]] W (RetV (.bool (stillB f1_3 f1_4)) W)) := fun W => c_isStill _ _ _ _ _ _ W
  have K5 : Hid (∀ W, Calls Try.prog 106 #[.agg #[.int .i64 k2, .float .f32 f2_0, .float .f32 f2_1, .float .f32 f2_2, .float .f32 f2_3, .float .f32 f2_4]] W (RetV (.bool (stillB f2_3 f2_4)) W)) := fun W => c_isStill _ _ _ _ _ _ W
  clear hv h_1 h_2 hr1 hr2
  rcases (Bool.eq_false_or_eq_true (zeroTo xs1 n1)).symm with h2 | h2
  · rw [h2] at K2
    have e : ((((zeroTo xs1 n1) && (zeroTo xs2 n2)) && (stillB f1_3 f1_4)) && (stillB f2_3 f2_4)) = false := by rw [h2]; simp
    rw [e]
    clear e h2
    go_enter Try.func53, Try.ntmps53
    go_wp2_with fail
    refine (K1.out _ (by (repeat (first | (with_reducible refine Below.drewN ?_) | (with_reducible refine Below.drew ?_) | ((with_reducible refine Below.alloc ?_ ?_ _); rotate_left; (first | omega | (simp <;> omega))) | ((with_reducible refine Below.setCell ?_ ?_ _); rotate_left; (first | omega | (simp <;> omega))) | (with_reducible exact Below.refl _ _) | (with_reducible assumption))))).mono ?_
    rintro e w1 ⟨rfl, hb1⟩
    obtain ⟨hc1, hf1, hz1⟩ := bcell hb1
    try simp at hz1
    have zb1 : w.heap.size ≤ w1.heap.size := by omega
    try (have z1_0 : w.heap.size < w1.heap.size := by omega)
    try (have z1_1 : w.heap.size + 1 < w1.heap.size := by omega)
    try (have z1_2 : w.heap.size + 1 + 1 < w1.heap.size := by omega)
    try (have z1_3 : w.heap.size + 1 + 1 + 1 < w1.heap.size := by omega)
    have b1 : Below w.heap.size w w1 := Below.trans (by (repeat (first | (with_reducible refine Below.drewN ?_) | (with_reducible refine Below.drew ?_) | ((with_reducible refine Below.alloc ?_ ?_ _); rotate_left; (first | omega | (simp <;> omega))) | ((with_reducible refine Below.setCell ?_ ?_ _); rotate_left; (first | omega | (simp <;> omega))) | (with_reducible exact Below.refl _ _) | (with_reducible assumption)))) (hb1.mono (by first | omega | (simp <;> omega)))
    go_wp2_with fail
    refine (K2.out _ (by (repeat (first | (with_reducible refine Below.drewN ?_) | (with_reducible refine Below.drew ?_) | ((with_reducible refine Below.alloc ?_ ?_ _); rotate_left; (first | omega | (simp <;> omega))) | ((with_reducible refine Below.setCell ?_ ?_ _); rotate_left; (first | omega | (simp <;> omega))) | (with_reducible exact Below.refl _ _) | (with_reducible assumption))))).mono ?_
    rintro e w2 ⟨rfl, hb2⟩
    obtain ⟨hc2, hf2, hz2⟩ := bcell hb2
    try simp at hz2
    have zb2 : w.heap.size ≤ w2.heap.size := by omega
    try (have z2_0 : w.heap.size < w2.heap.size := by omega)
    try (have z2_1 : w.heap.size + 1 < w2.heap.size := by omega)
    try (have z2_2 : w.heap.size + 1 + 1 < w2.heap.size := by omega)
    try (have z2_3 : w.heap.size + 1 + 1 + 1 < w2.heap.size := by omega)
    have b2 : Below w.heap.size w w2 := Below.trans (by (repeat (first | (with_reducible refine Below.drewN ?_) | (with_reducible refine Below.drew ?_) | ((with_reducible refine Below.alloc ?_ ?_ _); rotate_left; (first | omega | (simp <;> omega))) | ((with_reducible refine Below.setCell ?_ ?_ _); rotate_left; (first | omega | (simp <;> omega))) | (with_reducible exact Below.refl _ _) | (with_reducible assumption)))) (hb2.mono (by first | omega | (simp <;> omega)))
    go_wp2
    go_ret2
    exact ⟨rfl, by (repeat (first | (with_reducible refine Below.drewN ?_) | (with_reducible refine Below.drew ?_) | ((with_reducible refine Below.alloc ?_ ?_ _); rotate_left; (first | omega | (simp <;> omega))) | ((with_reducible refine Below.setCell ?_ ?_ _); rotate_left; (first | omega | (simp <;> omega))) | (with_reducible exact Below.refl _ _) | (with_reducible assumption)))⟩

  rw [h2] at K2
  rcases (Bool.eq_false_or_eq_true (zeroTo xs2 n2)).symm with h3 | h3
  · rw [h3] at K3
    have e : ((((zeroTo xs1 n1) && (zeroTo xs2 n2)) && (stillB f1_3 f1_4)) && (stillB f2_3 f2_4)) = false := by rw [h2, h3]; simp
    rw [e]
    clear e h2 h3
    go_enter Try.func53, Try.ntmps53
    go_wp2_with fail
    refine (K1.out _ (by (repeat (first | (with_reducible refine Below.drewN ?_) | (with_reducible refine Below.drew ?_) | ((with_reducible refine Below.alloc ?_ ?_ _); rotate_left; (first | omega | (simp <;> omega))) | ((with_reducible refine Below.setCell ?_ ?_ _); rotate_left; (first | omega | (simp <;> omega))) | (with_reducible exact Below.refl _ _) | (with_reducible assumption))))).mono ?_
    rintro e w1 ⟨rfl, hb1⟩
    obtain ⟨hc1, hf1, hz1⟩ := bcell hb1
    try simp at hz1
    have zb1 : w.heap.size ≤ w1.heap.size := by omega
    try (have z1_0 : w.heap.size < w1.heap.size := by omega)
    try (have z1_1 : w.heap.size + 1 < w1.heap.size := by omega)
    try (have z1_2 : w.heap.size + 1 + 1 < w1.heap.size := by omega)
    try (have z1_3 : w.heap.size + 1 + 1 + 1 < w1.heap.size := by omega)
    have b1 : Below w.heap.size w w1 := Below.trans (by (repeat (first | (with_reducible refine Below.drewN ?_) | (with_reducible refine Below.drew ?_) | ((with_reducible refine Below.alloc ?_ ?_ _); rotate_left; (first | omega | (simp <;> omega))) | ((with_reducible refine Below.setCell ?_ ?_ _); rotate_left; (first | omega | (simp <;> omega))) | (with_reducible exact Below.refl _ _) | (with_reducible assumption)))) (hb1.mono (by first | omega | (simp <;> omega)))
    go_wp2_with fail
    refine (K2.out _ (by (repeat (first | (with_reducible refine Below.drewN ?_) | (with_reducible refine Below.drew ?_) | ((with_reducible refine Below.alloc ?_ ?_ _); rotate_left; (first | omega | (simp <;> omega))) | ((with_reducible refine Below.setCell ?_ ?_ _); rotate_left; (first | omega | (simp <;> omega))) | (with_reducible exact Below.refl _ _) | (with_reducible assumption))))).mono ?_
    rintro e w2 ⟨rfl, hb2⟩
    obtain ⟨hc2, hf2, hz2⟩ := bcell hb2
    try simp at hz2
    have zb2 : w.heap.size ≤ w2.heap.size := by omega
    try (have z2_0 : w.heap.size < w2.heap.size := by omega)
    try (have z2_1 : w.heap.size + 1 < w2.heap.size := by omega)
    try (have z2_2 : w.heap.size + 1 + 1 < w2.heap.size := by omega)
    try (have z2_3 : w.heap.size + 1 + 1 + 1 < w2.heap.size := by omega)
    have b2 : Below w.heap.size w w2 := Below.trans (by (repeat (first | (with_reducible refine Below.drewN ?_) | (with_reducible refine Below.drew ?_) | ((with_reducible refine Below.alloc ?_ ?_ _); rotate_left; (first | omega | (simp <;> omega))) | ((with_reducible refine Below.setCell ?_ ?_ _); rotate_left; (first | omega | (simp <;> omega))) | (with_reducible exact Below.refl _ _) | (with_reducible assumption)))) (hb2.mono (by first | omega | (simp <;> omega)))
    go_wp2_with fail
    refine (K3.out _ (by (repeat (first | (with_reducible refine Below.drewN ?_) | (with_reducible refine Below.drew ?_) | ((with_reducible refine Below.alloc ?_ ?_ _); rotate_left; (first | omega | (simp <;> omega))) | ((with_reducible refine Below.setCell ?_ ?_ _); rotate_left; (first | omega | (simp <;> omega))) | (with_reducible exact Below.refl _ _) | (with_reducible assumption))))).mono ?_
    rintro e w3 ⟨rfl, hb3⟩
    obtain ⟨hc3, hf3, hz3⟩ := bcell hb3
    try simp at hz3
    have zb3 : w.heap.size ≤ w3.heap.size := by omega
    try (have z3_0 : w.heap.size < w3.heap.size := by omega)
    try (have z3_1 : w.heap.size + 1 < w3.heap.size := by omega)
    try (have z3_2 : w.heap.size + 1 + 1 < w3.heap.size := by omega)
    try (have z3_3 : w.heap.size + 1 + 1 + 1 < w3.heap.size := by omega)
    have b3 : Below w.heap.size w w3 := Below.trans (by (repeat (first | (with_reducible refine Below.drewN ?_) | (with_reducible refine Below.drew ?_) | ((with_reducible refine Below.alloc ?_ ?_ _); rotate_left; (first | omega | (simp <;> omega))) | ((with_reducible refine Below.setCell ?_ ?_ _); rotate_left; (first | omega | (simp <;> omega))) | (with_reducible exact Below.refl _ _) | (with_reducible assumption)))) (hb3.mono (by first | omega | (simp <;> omega)))
    go_wp2
    go_ret2
    exact ⟨rfl, by (repeat (first | (with_reducible refine Below.drewN ?_) | (with_reducible refine Below.drew ?_) | ((with_reducible refine Below.alloc ?_ ?_ _); rotate_left; (first | omega | (simp <;> omega))) | ((with_reducible refine Below.setCell ?_ ?_ _); rotate_left; (first | omega | (simp <;> omega))) | (with_reducible exact Below.refl _ _) | (with_reducible assumption)))⟩

  rw [h3] at K3
  rcases (Bool.eq_false_or_eq_true (stillB f1_3 f1_4)).symm with h4 | h4
  · rw [h4] at K4
    have e : ((((zeroTo xs1 n1) && (zeroTo xs2 n2)) && (stillB f1_3 f1_4)) && (stillB f2_3 f2_4)) = false := by rw [h2, h3, h4]; simp
    rw [e]
    clear e h2 h3 h4
    go_enter Try.func53, Try.ntmps53
    go_wp2_with fail
    refine (K1.out _ (by (repeat (first | (with_reducible refine Below.drewN ?_) | (with_reducible refine Below.drew ?_) | ((with_reducible refine Below.alloc ?_ ?_ _); rotate_left; (first | omega | (simp <;> omega))) | ((with_reducible refine Below.setCell ?_ ?_ _); rotate_left; (first | omega | (simp <;> omega))) | (with_reducible exact Below.refl _ _) | (with_reducible assumption))))).mono ?_
    rintro e w1 ⟨rfl, hb1⟩
    obtain ⟨hc1, hf1, hz1⟩ := bcell hb1
    try simp at hz1
    have zb1 : w.heap.size ≤ w1.heap.size := by omega
    try (have z1_0 : w.heap.size < w1.heap.size := by omega)
    try (have z1_1 : w.heap.size + 1 < w1.heap.size := by omega)
    try (have z1_2 : w.heap.size + 1 + 1 < w1.heap.size := by omega)
    try (have z1_3 : w.heap.size + 1 + 1 + 1 < w1.heap.size := by omega)
    have b1 : Below w.heap.size w w1 := Below.trans (by (repeat (first | (with_reducible refine Below.drewN ?_) | (with_reducible refine Below.drew ?_) | ((with_reducible refine Below.alloc ?_ ?_ _); rotate_left; (first | omega | (simp <;> omega))) | ((with_reducible refine Below.setCell ?_ ?_ _); rotate_left; (first | omega | (simp <;> omega))) | (with_reducible exact Below.refl _ _) | (with_reducible assumption)))) (hb1.mono (by first | omega | (simp <;> omega)))
    go_wp2_with fail
    refine (K2.out _ (by (repeat (first | (with_reducible refine Below.drewN ?_) | (with_reducible refine Below.drew ?_) | ((with_reducible refine Below.alloc ?_ ?_ _); rotate_left; (first | omega | (simp <;> omega))) | ((with_reducible refine Below.setCell ?_ ?_ _); rotate_left; (first | omega | (simp <;> omega))) | (with_reducible exact Below.refl _ _) | (with_reducible assumption))))).mono ?_
    rintro e w2 ⟨rfl, hb2⟩
    obtain ⟨hc2, hf2, hz2⟩ := bcell hb2
    try simp at hz2
    have zb2 : w.heap.size ≤ w2.heap.size := by omega
    try (have z2_0 : w.heap.size < w2.heap.size := by omega)
    try (have z2_1 : w.heap.size + 1 < w2.heap.size := by omega)
    try (have z2_2 : w.heap.size + 1 + 1 < w2.heap.size := by omega)
    try (have z2_3 : w.heap.size + 1 + 1 + 1 < w2.heap.size := by omega)
    have b2 : Below w.heap.size w w2 := Below.trans (by (repeat (first | (with_reducible refine Below.drewN ?_) | (with_reducible refine Below.drew ?_) | ((with_reducible refine Below.alloc ?_ ?_ _); rotate_left; (first | omega | (simp <;> omega))) | ((with_reducible refine Below.setCell ?_ ?_ _); rotate_left; (first | omega | (simp <;> omega))) | (with_reducible exact Below.refl _ _) | (with_reducible assumption)))) (hb2.mono (by first | omega | (simp <;> omega)))
    go_wp2_with fail
    refine (K3.out _ (by (repeat (first | (with_reducible refine Below.drewN ?_) | (with_reducible refine Below.drew ?_) | ((with_reducible refine Below.alloc ?_ ?_ _); rotate_left; (first | omega | (simp <;> omega))) | ((with_reducible refine Below.setCell ?_ ?_ _); rotate_left; (first | omega | (simp <;> omega))) | (with_reducible exact Below.refl _ _) | (with_reducible assumption))))).mono ?_
    rintro e w3 ⟨rfl, hb3⟩
    obtain ⟨hc3, hf3, hz3⟩ := bcell hb3
    try simp at hz3
    have zb3 : w.heap.size ≤ w3.heap.size := by omega
    try (have z3_0 : w.heap.size < w3.heap.size := by omega)
    try (have z3_1 : w.heap.size + 1 < w3.heap.size := by omega)
    try (have z3_2 : w.heap.size + 1 + 1 < w3.heap.size := by omega)
    try (have z3_3 : w.heap.size + 1 + 1 + 1 < w3.heap.size := by omega)
    have b3 : Below w.heap.size w w3 := Below.trans (by (repeat (first | (with_reducible refine Below.drewN ?_) | (with_reducible refine Below.drew ?_) | ((with_reducible refine Below.alloc ?_ ?_ _); rotate_left; (first | omega | (simp <;> omega))) | ((with_reducible refine Below.setCell ?_ ?_ _); rotate_left; (first | omega | (simp <;> omega))) | (with_reducible exact Below.refl _ _) | (with_reducible assumption)))) (hb3.mono (by first | omega | (simp <;> omega)))
    go_wp2_with fail
    refine (K4.out _).mono ?_
    rintro e w4 ⟨rfl, hb4⟩
    obtain ⟨hc4, hf4, hz4⟩ := bcell hb4
    try simp at hz4
    have zb4 : w.heap.size ≤ w4.heap.size := by omega
    try (have z4_0 : w.heap.size < w4.heap.size := by omega)
    try (have z4_1 : w.heap.size + 1 < w4.heap.size := by omega)
    try (have z4_2 : w.heap.size + 1 + 1 < w4.heap.size := by omega)
    try (have z4_3 : w.heap.size + 1 + 1 + 1 < w4.heap.size := by omega)
    have b4 : Below w.heap.size w w4 := Below.trans (by (repeat (first | (with_reducible refine Below.drewN ?_) | (with_reducible refine Below.drew ?_) | ((with_reducible refine Below.alloc ?_ ?_ _); rotate_left; (first | omega | (simp <;> omega))) | ((with_reducible refine Below.setCell ?_ ?_ _); rotate_left; (first | omega | (simp <;> omega))) | (with_reducible exact Below.refl _ _) | (with_reducible assumption)))) (hb4.mono (by first | omega | (simp <;> omega)))
    go_wp2
    go_ret2
    exact ⟨rfl, by (repeat (first | (with_reducible refine Below.drewN ?_) | (with_reducible refine Below.drew ?_) | ((with_reducible refine Below.alloc ?_ ?_ _); rotate_left; (first | omega | (simp <;> omega))) | ((with_reducible refine Below.setCell ?_ ?_ _); rotate_left; (first | omega | (simp <;> omega))) | (with_reducible exact Below.refl _ _) | (with_reducible assumption)))⟩

  rw [h4] at K4
  have e : ((((zeroTo xs1 n1) && (zeroTo xs2 n2)) && (stillB f1_3 f1_4)) && (stillB f2_3 f2_4)) = (stillB f2_3 f2_4) := by rw [h2, h3, h4]; simp
  rw [e]
  clear e h2 h3 h4
  go_enter Try.func53, Try.ntmps53
  go_wp2_with fail
  refine (K1.out _ (by (repeat (first | (with_reducible refine Below.drewN ?_) | (with_reducible refine Below.drew ?_) | ((with_reducible refine Below.alloc ?_ ?_ _); rotate_left; (first | omega | (simp <;> omega))) | ((with_reducible refine Below.setCell ?_ ?_ _); rotate_left; (first | omega | (simp <;> omega))) | (with_reducible exact Below.refl _ _) | (with_reducible assumption))))).mono ?_
  rintro e w1 ⟨rfl, hb1⟩
  obtain ⟨hc1, hf1, hz1⟩ := bcell hb1
  try simp at hz1
  have zb1 : w.heap.size ≤ w1.heap.size := by omega
  try (have z1_0 : w.heap.size < w1.heap.size := by omega)
  try (have z1_1 : w.heap.size + 1 < w1.heap.size := by omega)
  try (have z1_2 : w.heap.size + 1 + 1 < w1.heap.size := by omega)
  try (have z1_3 : w.heap.size + 1 + 1 + 1 < w1.heap.size := by omega)
  have b1 : Below w.heap.size w w1 := Below.trans (by (repeat (first | (with_reducible refine Below.drewN ?_) | (with_reducible refine Below.drew ?_) | ((with_reducible refine Below.alloc ?_ ?_ _); rotate_left; (first | omega | (simp <;> omega))) | ((with_reducible refine Below.setCell ?_ ?_ _); rotate_left; (first | omega | (simp <;> omega))) | (with_reducible exact Below.refl _ _) | (with_reducible assumption)))) (hb1.mono (by first | omega | (simp <;> omega)))
  go_wp2_with fail
  refine (K2.out _ (by (repeat (first | (with_reducible refine Below.drewN ?_) | (with_reducible refine Below.drew ?_) | ((with_reducible refine Below.alloc ?_ ?_ _); rotate_left; (first | omega | (simp <;> omega))) | ((with_reducible refine Below.setCell ?_ ?_ _); rotate_left; (first | omega | (simp <;> omega))) | (with_reducible exact Below.refl _ _) | (with_reducible assumption))))).mono ?_
  rintro e w2 ⟨rfl, hb2⟩
  obtain ⟨hc2, hf2, hz2⟩ := bcell hb2
  try simp at hz2
  have zb2 : w.heap.size ≤ w2.heap.size := by omega
  try (have z2_0 : w.heap.size < w2.heap.size := by omega)
  try (have z2_1 : w.heap.size + 1 < w2.heap.size := by omega)
  try (have z2_2 : w.heap.size + 1 + 1 < w2.heap.size := by omega)
  try (have z2_3 : w.heap.size + 1 + 1 + 1 < w2.heap.size := by omega)
  have b2 : Below w.heap.size w w2 := Below.trans (by (repeat (first | (with_reducible refine Below.drewN ?_) | (with_reducible refine Below.drew ?_) | ((with_reducible refine Below.alloc ?_ ?_ _); rotate_left; (first | omega | (simp <;> omega))) | ((with_reducible refine Below.setCell ?_ ?_ _); rotate_left; (first | omega | (simp <;> omega))) | (with_reducible exact Below.refl _ _) | (with_reducible assumption)))) (hb2.mono (by first | omega | (simp <;> omega)))
  go_wp2_with fail
  refine (K3.out _ (by (repeat (first | (with_reducible refine Below.drewN ?_) | (with_reducible refine Below.drew ?_) | ((with_reducible refine Below.alloc ?_ ?_ _); rotate_left; (first | omega | (simp <;> omega))) | ((with_reducible refine Below.setCell ?_ ?_ _); rotate_left; (first | omega | (simp <;> omega))) | (with_reducible exact Below.refl _ _) | (with_reducible assumption))))).mono ?_
  rintro e w3 ⟨rfl, hb3⟩
  obtain ⟨hc3, hf3, hz3⟩ := bcell hb3
  try simp at hz3
  have zb3 : w.heap.size ≤ w3.heap.size := by omega
  try (have z3_0 : w.heap.size < w3.heap.size := by omega)
  try (have z3_1 : w.heap.size + 1 < w3.heap.size := by omega)
  try (have z3_2 : w.heap.size + 1 + 1 < w3.heap.size := by omega)
  try (have z3_3 : w.heap.size + 1 + 1 + 1 < w3.heap.size := by omega)
  have b3 : Below w.heap.size w w3 := Below.trans (by (repeat (first | (with_reducible refine Below.drewN ?_) | (with_reducible refine Below.drew ?_) | ((with_reducible refine Below.alloc ?_ ?_ _); rotate_left; (first | omega | (simp <;> omega))) | ((with_reducible refine Below.setCell ?_ ?_ _); rotate_left; (first | omega | (simp <;> omega))) | (with_reducible exact Below.refl _ _) | (with_reducible assumption)))) (hb3.mono (by first | omega | (simp <;> omega)))
  go_wp2_with fail
  refine (K4.out _).mono ?_
  rintro e w4 ⟨rfl, hb4⟩
  obtain ⟨hc4, hf4, hz4⟩ := bcell hb4
  try simp at hz4
  have zb4 : w.heap.size ≤ w4.heap.size := by omega
  try (have z4_0 : w.heap.size < w4.heap.size := by omega)
  try (have z4_1 : w.heap.size + 1 < w4.heap.size := by omega)
  try (have z4_2 : w.heap.size + 1 + 1 < w4.heap.size := by omega)
  try (have z4_3 : w.heap.size + 1 + 1 + 1 < w4.heap.size := by omega)
  have b4 : Below w.heap.size w w4 := Below.trans (by (repeat (first | (with_reducible refine Below.drewN ?_) | (with_reducible refine Below.drew ?_) | ((with_reducible refine Below.alloc ?_ ?_ _); rotate_left; (first | omega | (simp <;> omega))) | ((with_reducible refine Below.setCell ?_ ?_ _); rotate_left; (first | omega | (simp <;> omega))) | (with_reducible exact Below.refl _ _) | (with_reducible assumption)))) (hb4.mono (by first | omega | (simp <;> omega)))
  go_wp2_with fail
  refine (K5.out _).mono ?_
  rintro e w5 ⟨rfl, hb5⟩
  obtain ⟨hc5, hf5, hz5⟩ := bcell hb5
  try simp at hz5
  have zb5 : w.heap.size ≤ w5.heap.size := by omega
  try (have z5_0 : w.heap.size < w5.heap.size := by omega)
  try (have z5_1 : w.heap.size + 1 < w5.heap.size := by omega)
  try (have z5_2 : w.heap.size + 1 + 1 < w5.heap.size := by omega)
  try (have z5_3 : w.heap.size + 1 + 1 + 1 < w5.heap.size := by omega)
  have b5 : Below w.heap.size w w5 := Below.trans (by (repeat (first | (with_reducible refine Below.drewN ?_) | (with_reducible refine Below.drew ?_) | ((with_reducible refine Below.alloc ?_ ?_ _); rotate_left; (first | omega | (simp <;> omega))) | ((with_reducible refine Below.setCell ?_ ?_ _); rotate_left; (first | omega | (simp <;> omega))) | (with_reducible exact Below.refl _ _) | (with_reducible assumption)))) (hb5.mono (by first | omega | (simp <;> omega)))
  go_wp2
  go_ret2
  exact ⟨rfl, by (repeat (first | (with_reducible refine Below.drewN ?_) | (with_reducible refine Below.drew ?_) | ((with_reducible refine Below.alloc ?_ ?_ _); rotate_left; (first | omega | (simp <;> omega))) | ((with_reducible refine Below.setCell ?_ ?_ _); rotate_left; (first | omega | (simp <;> omega))) | (with_reducible exact Below.refl _ _) | (with_reducible assumption)))⟩

set_option maxHeartbeats 1000000 in
theorem c_IsSilentJet_no (a1 : Option Addr) (n1 c1 : Nat) (xs1 : List Nat) (i1 : Int) (a2 : Option Addr) (n2 c2 : Nat) (xs2 : List Nat) (i2 : Int) (k1 : Int) (f1_0 f1_1 f1_2 f1_3 f1_4 : Nat) (k2 : Int) (f2_0 f2_1 f2_2 f2_3 f2_4 : Nat) (x1 : Nat) (x2 : Nat) (w : World) (h_1 : FS w a1 n1 c1 xs1) (h_2 : FS w a2 n2 c2 xs2) (hv : valJet n1 xs1 i1 n2 xs2 i2 k1 f1_0 f1_1 f1_2 f1_3 f1_4 k2 f2_0 f2_1 f2_2 f2_3 f2_4 x1 x2 = false) :
    Calls Try.prog 53 #[.agg #[.slice a1 n1 c1, .int .i64 i1, .slice a2 n2 c2, .int .i64 i2, .int .i64 k1, .float .f32 f1_0, .float .f32 f1_1, .float .f32 f1_2, .float .f32 f1_3, .float .f32 f1_4, .int .i64 k2, .float .f32 f2_0, .float .f32 f2_1, .float .f32 f2_2, .float .f32 f2_3, .float .f32 f2_4, .float .f32 x1, .float .f32 x2]] w (RetV (.tuple #[.bool false, .int .i64 1]) w) := by
  have K1 : Hid (∀ W, Below w.heap.size w W → Calls Try.prog 41 #[.agg #[.slice a1 n1 c1, .int .i64 i1, .slice a2 n2 c2, .int .i64 i2, .int .i64 k1, .float .f32 f1_0, .float .f32 f1_1, .float .f32 f1_2, .float .f32 f1_3, .float .f32 f1_4, .int .i64 k2, .float .f32 f2_0, .float .f32 f2_1, .float .f32 f2_2, .float .f32 f2_3, .float .f32 f2_4, .float .f32 x1, .float .f32 x2]] W (RetV (.bool false) W)) := fun W hb => hv ▸ c_ValidJet _ _ _ _ _ _ _ _ _ _ _ _ _ _ _ _ _ _ _ _ _ _ _ _ W (h_1.below hb (Nat.le_refl _)) (h_2.below hb (Nat.le_refl _))
  clear hv h_1 h_2
  go_enter Try.func53, Try.ntmps53
  go_wp2_with fail
  refine (K1.out _ (by (repeat (first | (with_reducible refine Below.drewN ?_) | (with_reducible refine Below.drew ?_) | ((with_reducible refine Below.alloc ?_ ?_ _); rotate_left; (first | omega | (simp <;> omega))) | ((with_reducible refine Below.setCell ?_ ?_ _); rotate_left; (first | omega | (simp <;> omega))) | (with_reducible exact Below.refl _ _) | (with_reducible assumption))))).mono ?_
  rintro e w1 ⟨rfl, hb1⟩
  obtain ⟨hc1, hf1, hz1⟩ := bcell hb1
  try simp at hz1
  have zb1 : w.heap.size ≤ w1.heap.size := by omega
  try (have z1_0 : w.heap.size < w1.heap.size := by omega)
  try (have z1_1 : w.heap.size + 1 < w1.heap.size := by omega)
  try (have z1_2 : w.heap.size + 1 + 1 < w1.heap.size := by omega)
  try (have z1_3 : w.heap.size + 1 + 1 + 1 < w1.heap.size := by omega)
  have b1 : Below w.heap.size w w1 := Below.trans (by (repeat (first | (with_reducible refine Below.drewN ?_) | (with_reducible refine Below.drew ?_) | ((with_reducible refine Below.alloc ?_ ?_ _); rotate_left; (first | omega | (simp <;> omega))) | ((with_reducible refine Below.setCell ?_ ?_ _); rotate_left; (first | omega | (simp <;> omega))) | (with_reducible exact Below.refl _ _) | (with_reducible assumption)))) (hb1.mono (by first | omega | (simp <;> omega)))
  go_wp2
  go_ret2
  exact ⟨rfl, by (repeat (first | (with_reducible refine Below.drewN ?_) | (with_reducible refine Below.drew ?_) | ((with_reducible refine Below.alloc ?_ ?_ _); rotate_left; (first | omega | (simp <;> omega))) | ((with_reducible refine Below.setCell ?_ ?_ _); rotate_left; (first | omega | (simp <;> omega))) | (with_reducible exact Below.refl _ _) | (with_reducible assumption)))⟩



end Go.Proofs.Ytbkafmikaojclaa
