
/-
Contracts of the program's tests of bows and jets.
-/
import Derived.Test.YtbdanadmabemdaaDoorRi
namespace Go.Proofs.YtbdanadmabemdaaDoor
open Go Go.RowKit Fl
def valBow (n1 : Nat) (xs1 : List Nat) (i1 : Int) (n2 : Nat) (xs2 : List Nat) (i2 : Int) (k1 : Int) (f1_0 f1_1 f1_2 f1_3 f1_4 : Nat) (x1 : Nat) (x2 : Nat) : Bool := (((ringB n1 i1 && finTo xs1 n1) && (ringB n2 i2 && finTo xs2 n2)) && (okF k1 [f1_0, f1_1, f1_2] [f1_3, f1_4] && (k1 == 1))) && (finTo [x1, x2] 2)
theorem c_ValidBow_ (a1 : Option Addr) (n1 c1 : Nat) (xs1 : List Nat) (i1 : Int) (a2 : Option Addr) (n2 c2 : Nat) (xs2 : List Nat) (i2 : Int) (k1 : Int) (f1_0 f1_1 f1_2 f1_3 f1_4 : Nat) (x1 : Nat) (x2 : Nat) (w : World) (h_1 : FS w a1 n1 c1 xs1) (h_2 : FS w a2 n2 c2 xs2) :
    Calls Tryd.prog 26 #[.agg #[.slice a1 n1 c1, .int .i64 i1, .slice a2 n2 c2, .int .i64 i2, .int .i64 k1, .float .f32 f1_0, .float .f32 f1_1, .float .f32 f1_2, .float .f32 f1_3, .float .f32 f1_4, .float .f32 x1, .float .f32 x2]] w (RetV (.bool ((((ringB n1 i1 && finTo xs1 n1) && (ringB n2 i2 && finTo xs2 n2)) && (okF k1 [f1_0, f1_1, f1_2] [f1_3, f1_4] && (k1 == 1))) && (finTo [x1, x2] 2))) w) := by
  have K1 : Hid (∀ W, Below w.heap.size w W → Calls Tryd.prog 55 #[.agg #[.slice a1 n1 c1, .int .i64 i1]] W (RetV (.bool (ringB n1 i1 && finTo xs1 n1)) W)) := fun W hb => c_isRing _ _ _ _ _ W (h_1.below hb (Nat.le_refl _))
  have K2 : Hid (∀ W, Below w.heap.size w W → Calls Tryd.prog 55 #[.agg #[.slice a2 n2 c2, .int .i64 i2]] W (RetV (.bool (ringB n2 i2 && finTo xs2 n2)) W)) := fun W hb => c_isRing _ _ _ _ _ W (h_2.below hb (Nat.le_refl _))
  have K3 : Hid (∀ W, Calls Tryd.prog 56 #[.agg #[.int .i64 k1, .float .f32 f1_0, .float .f32 f1_1, .float .f32 f1_2, .float .f32 f1_3, .float .f32 f1_4], .int .i64 1] W (RetV (.bool (okF k1 [f1_0, f1_1, f1_2] [f1_3, f1_4] && (k1 == 1))) W)) := fun W => c_isFilter _ _ _ _ _ _ _ W
  have K4 : Hid (∀ W g, FS W (some ⟨g, 0, none⟩) 2 2 [x1, x2] → Calls Tryd.prog 57 #[.slice (some ⟨g, 0, none⟩) 2 2] W (RetB (finTo [x1, x2] 2) W)) := fun W g hf => c_areFinite _ _ _ _ W hf
  clear h_1 h_2
  rcases (Bool.eq_false_or_eq_true (ringB n1 i1 && finTo xs1 n1)).symm with h1 | h1
  · have e : ((((ringB n1 i1 && finTo xs1 n1) && (ringB n2 i2 && finTo xs2 n2)) && (okF k1 [f1_0, f1_1, f1_2] [f1_3, f1_4] && (k1 == 1))) && (finTo [x1, x2] 2)) = false := by rw [h1, Bool.false_and, Bool.false_and, Bool.false_and]
    rw [h1] at K1
    rw [e]
    clear e h1
    go_enter Tryd.func26, Tryd.ntmps26
    go_wp2_with fail
    refine (K1.out _ (by (repeat (first | (with_reducible refine Below.drewN ?_) | (with_reducible refine Below.drew ?_) | ((with_reducible refine Below.alloc ?_ ?_ _); rotate_left; (first | omega | (simp <;> omega))) | ((with_reducible refine Below.setCell ?_ ?_ _); rotate_left; (first | omega | (simp <;> omega))) | (with_reducible exact Below.refl _ _) | (with_reducible assumption))))).mono ?_
    rintro e w1 ⟨rfl, hb1⟩
    obtain ⟨hc1, hf1, hz1⟩ := bcell hb1
    try simp at hz1
    have zb1 : w.heap.size ≤ w1.heap.size := by omega
    try (have z1_0 : w.heap.size < w1.heap.size := by omega)
    try (have z1_1 : w.heap.size + 1 < w1.heap.size := by omega)
    try (have z1_2 : w.heap.size + 1 + 1 < w1.heap.size := by omega)
    try (have z1_3 : w.heap.size + 1 + 1 + 1 < w1.heap.size := by omega)
    have b1 : Below w.heap.size w w1 := Below.trans (by (repeat (first | (with_reducible refine Below.drewN ?_) | (with_reducible refine Below.drew ?_) | ((with_reducible refine Below.alloc ?_ ?_ _); rotate_left; (first | omega | (simp <;> omega))) | ((with_reducible refine Below.setCell ?_ ?_ _); rotate_left; (first | omega | (simp <;> omega))) | (with_reducible exact Below.refl _ _) | (with_reducible assumption)))) (hb1.mono (by first | omega | (simp <;> omega)))
    go_wp2
    go_ret
    exact ⟨rfl, by (repeat (first | (with_reducible refine Below.drewN ?_) | (with_reducible refine Below.drew ?_) | ((with_reducible refine Below.alloc ?_ ?_ _); rotate_left; (first | omega | (simp <;> omega))) | ((with_reducible refine Below.setCell ?_ ?_ _); rotate_left; (first | omega | (simp <;> omega))) | (with_reducible exact Below.refl _ _) | (with_reducible assumption)))⟩

  rw [h1] at K1
  rcases (Bool.eq_false_or_eq_true (ringB n2 i2 && finTo xs2 n2)).symm with h2 | h2
  · have e : ((((ringB n1 i1 && finTo xs1 n1) && (ringB n2 i2 && finTo xs2 n2)) && (okF k1 [f1_0, f1_1, f1_2] [f1_3, f1_4] && (k1 == 1))) && (finTo [x1, x2] 2)) = false := by rw [h1, Bool.true_and, h2, Bool.false_and, Bool.false_and]
    rw [h2] at K2
    rw [e]
    clear e h1 h2
    go_enter Tryd.func26, Tryd.ntmps26
    go_wp2_with fail
    refine (K1.out _ (by (repeat (first | (with_reducible refine Below.drewN ?_) | (with_reducible refine Below.drew ?_) | ((with_reducible refine Below.alloc ?_ ?_ _); rotate_left; (first | omega | (simp <;> omega))) | ((with_reducible refine Below.setCell ?_ ?_ _); rotate_left; (first | omega | (simp <;> omega))) | (with_reducible exact Below.refl _ _) | (with_reducible assumption))))).mono ?_
    rintro e w1 ⟨rfl, hb1⟩
    obtain ⟨hc1, hf1, hz1⟩ := bcell hb1
    try simp at hz1
    have zb1 : w.heap.size ≤ w1.heap.size := by omega
    try (have z1_0 : w.heap.size < w1.heap.size := by omega)
    try (have z1_1 : w.heap.size + 1 < w1.heap.size := by omega)
    try (have z1_2 : w.heap.size + 1 + 1 < w1.heap.size := by omega)
    try (have z1_3 : w.heap.size + 1 + 1 + 1 < w1.heap.size := by omega)
    have b1 : Below w.heap.size w w1 := Below.trans (by (repeat (first | (with_reducible refine Below.drewN ?_) | (with_reducible refine Below.drew ?_) | ((with_reducible refine Below.alloc ?_ ?_ _); rotate_left; (first | omega | (simp <;> omega))) | ((with_reducible refine Below.setCell ?_ ?_ _); rotate_left; (first | omega | (simp <;> omega))) | (with_reducible exact Below.refl _ _) | (with_reducible assumption)))) (hb1.mono (by first | omega | (simp <;> omega)))
    go_wp2_with fail
    refine (K2.out _ (by (repeat (first | (with_reducible refine Below.drewN ?_) | (with_reducible refine Below.drew ?_) | ((with_reducible refine Below.alloc ?_ ?_ _); rotate_left; (first | omega | (simp <;> omega))) | ((with_reducible refine Below.setCell ?_ ?_ _); rotate_left; (first | omega | (simp <;> omega))) | (with_reducible exact Below.refl _ _) | (with_reducible assumption))))).mono ?_
    rintro e w2 ⟨rfl, hb2⟩
    obtain ⟨hc2, hf2, hz2⟩ := bcell hb2
    try simp at hz2
    have zb2 : w.heap.size ≤ w2.heap.size := by omega
    try (have z2_0 : w.heap.size < w2.heap.size := by omega)
    try (have z2_1 : w.heap.size + 1 < w2.heap.size := by omega)
    try (have z2_2 : w.heap.size + 1 + 1 < w2.heap.size := by omega)
    try (have z2_3 : w.heap.size + 1 + 1 + 1 < w2.heap.size := by omega)
    have b2 : Below w.heap.size w w2 := Below.trans (by (repeat (first | (with_reducible refine Below.drewN ?_) | (with_reducible refine Below.drew ?_) | ((with_reducible refine Below.alloc ?_ ?_ _); rotate_left; (first | omega | (simp <;> omega))) | ((with_reducible refine Below.setCell ?_ ?_ _); rotate_left; (first | omega | (simp <;> omega))) | (with_reducible exact Below.refl _ _) | (with_reducible assumption)))) (hb2.mono (by first | omega | (simp <;> omega)))
    go_wp2
    go_ret
    exact ⟨rfl, by (repeat (first | (with_reducible refine Below.drewN ?_) | (with_reducible refine Below.drew ?_) | ((with_reducible refine Below.alloc ?_ ?_ _); rotate_left; (first | omega | (simp <;> omega))) | ((with_reducible refine Below.setCell ?_ ?_ _); rotate_left; (first | omega | (simp <;> omega))) | (with_reducible exact Below.refl _ _) | (with_reducible assumption)))⟩

  rw [h2] at K2
  rcases (Bool.eq_false_or_eq_true (okF k1 [f1_0, f1_1, f1_2] [f1_3, f1_4] && (k1 == 1))).symm with h3 | h3
  · have e : ((((ringB n1 i1 && finTo xs1 n1) && (ringB n2 i2 && finTo xs2 n2)) && (okF k1 [f1_0, f1_1, f1_2] [f1_3, f1_4] && (k1 == 1))) && (finTo [x1, x2] 2)) = false := by rw [h1, Bool.true_and, h2, Bool.true_and, h3, Bool.false_and]
    rw [h3] at K3
    rw [e]
    clear e h1 h2 h3
    go_enter Tryd.func26, Tryd.ntmps26
    go_wp2_with fail
    refine (K1.out _ (by (repeat (first | (with_reducible refine Below.drewN ?_) | (with_reducible refine Below.drew ?_) | ((with_reducible refine Below.alloc ?_ ?_ _); rotate_left; (first | omega | (simp <;> omega))) | ((with_reducible refine Below.setCell ?_ ?_ _); rotate_left; (first | omega | (simp <;> omega))) | (with_reducible exact Below.refl _ _) | (with_reducible assumption))))).mono ?_
    rintro e w1 ⟨rfl, hb1⟩
    obtain ⟨hc1, hf1, hz1⟩ := bcell hb1
    try simp at hz1
    have zb1 : w.heap.size ≤ w1.heap.size := by omega
    try (have z1_0 : w.heap.size < w1.heap.size := by omega)
    try (have z1_1 : w.heap.size + 1 < w1.heap.size := by omega)
    try (have z1_2 : w.heap.size + 1 + 1 < w1.heap.size := by omega)
    try (have z1_3 : w.heap.size + 1 + 1 + 1 < w1.heap.size := by omega)
    have b1 : Below w.heap.size w w1 := Below.trans (by (repeat (first | (with_reducible refine Below.drewN ?_) | (with_reducible refine Below.drew ?_) | ((with_reducible refine Below.alloc ?_ ?_ _); rotate_left; (first | omega | (simp <;> omega))) | ((with_reducible refine Below.setCell ?_ ?_ _); rotate_left; (first | omega | (simp <;> omega))) | (with_reducible exact Below.refl _ _) | (with_reducible assumption)))) (hb1.mono (by first | omega | (simp <;> omega)))
    go_wp2_with fail
    refine (K2.out _ (by (repeat (first | (with_reducible refine Below.drewN ?_) | (with_reducible refine Below.drew ?_) | ((with_reducible refine Below.alloc ?_ ?_ _); rotate_left; (first | omega | (simp <;> omega))) | ((with_reducible refine Below.setCell ?_ ?_ _); rotate_left; (first | omega | (simp <;> omega))) | (with_reducible exact Below.refl _ _) | (with_reducible assumption))))).mono ?_
    rintro e w2 ⟨rfl, hb2⟩
    obtain ⟨hc2, hf2, hz2⟩ := bcell hb2
    try simp at hz2
    have zb2 : w.heap.size ≤ w2.heap.size := by omega
    try (have z2_0 : w.heap.size < w2.heap.size := by omega)
    try (have z2_1 : w.heap.size + 1 < w2.heap.size := by omega)
    try (have z2_2 : w.heap.size + 1 + 1 < w2.heap.size := by omega)
    try (have z2_3 : w.heap.size + 1 + 1 + 1 < w2.heap.size := by omega)
    have b2 : Below w.heap.size w w2 := Below.trans (by (repeat (first | (with_reducible refine Below.drewN ?_) | (with_reducible refine Below.drew ?_) | ((with_reducible refine Below.alloc ?_ ?_ _); rotate_left; (first | omega | (simp <;> omega))) | ((with_reducible refine Below.setCell ?_ ?_ _); rotate_left; (first | omega | (simp <;> omega))) | (with_reducible exact Below.refl _ _) | (with_reducible assumption)))) (hb2.mono (by first | omega | (simp <;> omega)))
    go_wp2_with fail
    refine (K3.out _).mono ?_
    rintro e w3 ⟨rfl, hb3⟩
    obtain ⟨hc3, hf3, hz3⟩ := bcell hb3
    try simp at hz3
    have zb3 : w.heap.size ≤ w3.heap.size := by omega
    try (have z3_0 : w.heap.size < w3.heap.size := by omega)
    try (have z3_1 : w.heap.size + 1 < w3.heap.size := by omega)
    try (have z3_2 : w.heap.size + 1 + 1 < w3.heap.size := by omega)
    try (have z3_3 : w.heap.size + 1 + 1 + 1 < w3.heap.size := by omega)
    have b3 : Below w.heap.size w w3 := Below.trans (by (repeat (first | (with_reducible refine Below.drewN ?_) | (with_reducible refine Below.drew ?_) | ((with_reducible refine Below.alloc ?_ ?_ _); rotate_left; (first | omega | (simp <;> omega))) | ((with_reducible refine Below.setCell ?_ ?_ _); rotate_left; (first | omega | (simp <;> omega))) | (with_reducible exact Below.refl _ _) | (with_reducible assumption)))) (hb3.mono (by first | omega | (simp <;> omega)))
    go_wp2
    go_ret
    exact ⟨rfl, by (repeat (first | (with_reducible refine Below.drewN ?_) | (with_reducible refine Below.drew ?_) | ((with_reducible refine Below.alloc ?_ ?_ _); rotate_left; (first | omega | (simp <;> omega))) | ((with_reducible refine Below.setCell ?_ ?_ _); rotate_left; (first | omega | (simp <;> omega))) | (with_reducible exact Below.refl _ _) | (with_reducible assumption)))⟩

  rw [h3] at K3
  have e : ((((ringB n1 i1 && finTo xs1 n1) && (ringB n2 i2 && finTo xs2 n2)) && (okF k1 [f1_0, f1_1, f1_2] [f1_3, f1_4] && (k1 == 1))) && (finTo [x1, x2] 2)) = (finTo [x1, x2] 2) := by rw [h1, Bool.true_and, h2, Bool.true_and, h3, Bool.true_and]
  rw [e]
  clear e h1 h2 h3
  go_enter Tryd.func26, Tryd.ntmps26
  go_wp2_with fail
  refine (K1.out _ (by (repeat (first | (with_reducible refine Below.drewN ?_) | (with_reducible refine Below.drew ?_) | ((with_reducible refine Below.alloc ?_ ?_ _); rotate_left; (first | omega | (simp <;> omega))) | ((with_reducible refine Below.setCell ?_ ?_ _); rotate_left; (first | omega | (simp <;> omega))) | (with_reducible exact Below.refl _ _) | (with_reducible assumption))))).mono ?_
  rintro e w1 ⟨rfl, hb1⟩
  obtain ⟨hc1, hf1, hz1⟩ := bcell hb1
  try simp at hz1
  have zb1 : w.heap.size ≤ w1.heap.size := by omega
  try (have z1_0 : w.heap.size < w1.heap.size := by omega)
  try (have z1_1 : w.heap.size + 1 < w1.heap.size := by omega)
  try (have z1_2 : w.heap.size + 1 + 1 < w1.heap.size := by omega)
  try (have z1_3 : w.heap.size + 1 + 1 + 1 < w1.heap.size := by omega)
  have b1 : Below w.heap.size w w1 := Below.trans (by (repeat (first | (with_reducible refine Below.drewN ?_) | (with_reducible refine Below.drew ?_) | ((with_reducible refine Below.alloc ?_ ?_ _); rotate_left; (first | omega | (simp <;> omega))) | ((with_reducible refine Below.setCell ?_ ?_ _); rotate_left; (first | omega | (simp <;> omega))) | (with_reducible exact Below.refl _ _) | (with_reducible assumption)))) (hb1.mono (by first | omega | (simp <;> omega)))
  go_wp2_with fail
  refine (K2.out _ (by (repeat (first | (with_reducible refine Below.drewN ?_) | (with_reducible refine Below.drew ?_) | ((with_reducible refine Below.alloc ?_ ?_ _); rotate_left; (first | omega | (simp <;> omega))) | ((with_reducible refine Below.setCell ?_ ?_ _); rotate_left; (first | omega | (simp <;> omega))) | (with_reducible exact Below.refl _ _) | (with_reducible assumption))))).mono ?_
  rintro e w2 ⟨rfl, hb2⟩
  obtain ⟨hc2, hf2, hz2⟩ := bcell hb2
  try simp at hz2
  have zb2 : w.heap.size ≤ w2.heap.size := by omega
  try (have z2_0 : w.heap.size < w2.heap.size := by omega)
  try (have z2_1 : w.heap.size + 1 < w2.heap.size := by omega)
  try (have z2_2 : w.heap.size + 1 + 1 < w2.heap.size := by omega)
  try (have z2_3 : w.heap.size + 1 + 1 + 1 < w2.heap.size := by omega)
  have b2 : Below w.heap.size w w2 := Below.trans (by (repeat (first | (with_reducible refine Below.drewN ?_) | (with_reducible refine Below.drew ?_) | ((with_reducible refine Below.alloc ?_ ?_ _); rotate_left; (first | omega | (simp <;> omega))) | ((with_reducible refine Below.setCell ?_ ?_ _); rotate_left; (first | omega | (simp <;> omega))) | (with_reducible exact Below.refl _ _) | (with_reducible assumption)))) (hb2.mono (by first | omega | (simp <;> omega)))
  go_wp2_with fail
  refine (K3.out _).mono ?_
  rintro e w3 ⟨rfl, hb3⟩
  obtain ⟨hc3, hf3, hz3⟩ := bcell hb3
  try simp at hz3
  have zb3 : w.heap.size ≤ w3.heap.size := by omega
  try (have z3_0 : w.heap.size < w3.heap.size := by omega)
  try (have z3_1 : w.heap.size + 1 < w3.heap.size := by omega)
  try (have z3_2 : w.heap.size + 1 + 1 < w3.heap.size := by omega)
  try (have z3_3 : w.heap.size + 1 + 1 + 1 < w3.heap.size := by omega)
  have b3 : Below w.heap.size w w3 := Below.trans (by (repeat (first | (with_reducible refine Below.drewN ?_) | (with_reducible refine Below.drew ?_) | ((with_reducible refine Below.alloc ?_ ?_ _); rotate_left; (first | omega | (simp <;> omega))) | ((with_reducible refine Below.setCell ?_ ?_ _); rotate_left; (first | omega | (simp <;> omega))) | (with_reducible exact Below.refl _ _) | (with_reducible assumption)))) (hb3.mono (by first | omega | (simp <;> omega)))
  go_wp2_with fail
  refine (K4.out _ _ (OF.fs (g := _) (OF.made' (xs := [x1, x2]) (by simp) rfl (by omega)))).mono ?_
  rintro e w' ⟨rfl, dq4, rfl⟩
  go_wp2
  go_ret
  exact ⟨rfl, by (repeat (first | (with_reducible refine Below.drewN ?_) | (with_reducible refine Below.drew ?_) | ((with_reducible refine Below.alloc ?_ ?_ _); rotate_left; (first | omega | (simp <;> omega))) | ((with_reducible refine Below.setCell ?_ ?_ _); rotate_left; (first | omega | (simp <;> omega))) | (with_reducible exact Below.refl _ _) | (with_reducible assumption)))⟩

theorem c_ValidBow (a1 : Option Addr) (n1 c1 : Nat) (xs1 : List Nat) (i1 : Int) (a2 : Option Addr) (n2 c2 : Nat) (xs2 : List Nat) (i2 : Int) (k1 : Int) (f1_0 f1_1 f1_2 f1_3 f1_4 : Nat) (x1 : Nat) (x2 : Nat) (w : World) (h_1 : FS w a1 n1 c1 xs1) (h_2 : FS w a2 n2 c2 xs2) :
    Calls Tryd.prog 26 #[.agg #[.slice a1 n1 c1, .int .i64 i1, .slice a2 n2 c2, .int .i64 i2, .int .i64 k1, .float .f32 f1_0, .float .f32 f1_1, .float .f32 f1_2, .float .f32 f1_3, .float .f32 f1_4, .float .f32 x1, .float .f32 x2]] w (RetV (.bool (valBow n1 xs1 i1 n2 xs2 i2 k1 f1_0 f1_1 f1_2 f1_3 f1_4 x1 x2)) w) := c_ValidBow_ a1 n1 c1 xs1 i1 a2 n2 c2 xs2 i2 k1 f1_0 f1_1 f1_2 f1_3 f1_4 x1 x2 w h_1 h_2

def valJet (n1 : Nat) (xs1 : List Nat) (i1 : Int) (n2 : Nat) (xs2 : List Nat) (i2 : Int) (k1 : Int) (f1_0 f1_1 f1_2 f1_3 f1_4 : Nat) (k2 : Int) (f2_0 f2_1 f2_2 f2_3 f2_4 : Nat) (x1 : Nat) (x2 : Nat) : Bool := ((((ringB n1 i1 && finTo xs1 n1) && (ringB n2 i2 && finTo xs2 n2)) && (okF k1 [f1_0, f1_1, f1_2] [f1_3, f1_4] && (k1 == 1))) && (okF k2 [f2_0, f2_1, f2_2] [f2_3, f2_4] && (k2 == 5))) && (finTo [x1, x2] 2)
theorem c_ValidJet_ (a1 : Option Addr) (n1 c1 : Nat) (xs1 : List Nat) (i1 : Int) (a2 : Option Addr) (n2 c2 : Nat) (xs2 : List Nat) (i2 : Int) (k1 : Int) (f1_0 f1_1 f1_2 f1_3 f1_4 : Nat) (k2 : Int) (f2_0 f2_1 f2_2 f2_3 f2_4 : Nat) (x1 : Nat) (x2 : Nat) (w : World) (h_1 : FS w a1 n1 c1 xs1) (h_2 : FS w a2 n2 c2 xs2) :
    Calls Tryd.prog 35 #[.agg #[.slice a1 n1 c1, .int .i64 i1, .slice a2 n2 c2, .int .i64 i2, .int .i64 k1, .float .f32 f1_0, .float .f32 f1_1, .float .f32 f1_2, .float .f32 f1_3, .float .f32 f1_4, .int .i64 k2, .float .f32 f2_0, .float .f32 f2_1, .float .f32 f2_2, .float .f32 f2_3, .float .f32 f2_4, .float .f32 x1, .float .f32 x2]] w (RetV (.bool (((((ringB n1 i1 && finTo xs1 n1) && (ringB n2 i2 && finTo xs2 n2)) && (okF k1 [f1_0, f1_1, f1_2] [f1_3, f1_4] && (k1 == 1))) && (okF k2 [f2_0, f2_1, f2_2] [f2_3, f2_4] && (k2 == 5))) && (finTo [x1, x2] 2))) w) := by
  have K1 : Hid (∀ W, Below w.heap.size w W → Calls Tryd.prog 55 #[.agg #[.slice a1 n1 c1, .int .i64 i1]] W (RetV (.bool (ringB n1 i1 && finTo xs1 n1)) W)) := fun W hb => c_isRing _ _ _ _ _ W (h_1.below hb (Nat.le_refl _))
  have K2 : Hid (∀ W, Below w.heap.size w W → Calls Tryd.prog 55 #[.agg #[.slice a2 n2 c2, .int .i64 i2]] W (RetV (.bool (ringB n2 i2 && finTo xs2 n2)) W)) := fun W hb => c_isRing _ _ _ _ _ W (h_2.below hb (Nat.le_refl _))
  have K3 : Hid (∀ W, Calls Tryd.prog 56 #[.agg #[.int .i64 k1, .float .f32 f1_0, .float .f32 f1_1, .float .f32 f1_2, .float .f32 f1_3, .float .f32 f1_4], .int .i64 1] W (RetV (.bool (okF k1 [f1_0, f1_1, f1_2] [f1_3, f1_4] && (k1 == 1))) W)) := fun W => c_isFilter _ _ _ _ _ _ _ W
  have K4 : Hid (∀ W, Calls Tryd.prog 56 #[.agg #[.int .i64 k2, .float .f32 f2_0, .float .f32 f2_1, .float .f32 f2_2, .float .f32 f2_3, .float .f32 f2_4], .int .i64 5] W (RetV (.bool (okF k2 [f2_0, f2_1, f2_2] [f2_3, f2_4] && (k2 == 5))) W)) := fun W => c_isFilter _ _ _ _ _ _ _ W
  have K5 : Hid (∀ W g, FS W (some ⟨g, 0, none⟩) 2 2 [x1, x2] → Calls Tryd.prog 57 #[.slice (some ⟨g, 0, none⟩) 2 2] W (RetB (finTo [x1, x2] 2) W)) := fun W g hf => c_areFinite _ _ _ _ W hf
  clear h_1 h_2
  rcases (Bool.eq_false_or_eq_true (ringB n1 i1 && finTo xs1 n1)).symm with h1 | h1
  · have e : (((((ringB n1 i1 && finTo xs1 n1) && (ringB n2 i2 && finTo xs2 n2)) && (okF k1 [f1_0, f1_1, f1_2] [f1_3, f1_4] && (k1 == 1))) && (okF k2 [f2_0, f2_1, f2_2] [f2_3, f2_4] && (k2 == 5))) && (finTo [x1, x2] 2)) = false := by rw [h1, Bool.false_and, Bool.false_and, Bool.false_and, Bool.false_and]
    rw [h1] at K1
    rw [e]
    clear e h1
    go_enter Tryd.func35, Tryd.ntmps35
    go_wp2_with fail
    refine (K1.out _ (by (repeat (first | (with_reducible refine Below.drewN ?_) | (with_reducible refine Below.drew ?_) | ((with_reducible refine Below.alloc ?_ ?_ _); rotate_left; (first | omega | (simp <;> omega))) | ((with_reducible refine Below.setCell ?_ ?_ _); rotate_left; (first | omega | (simp <;> omega))) | (with_reducible exact Below.refl _ _) | (with_reducible assumption))))).mono ?_
    rintro e w1 ⟨rfl, hb1⟩
    obtain ⟨hc1, hf1, hz1⟩ := bcell hb1
    try simp at hz1
    have zb1 : w.heap.size ≤ w1.heap.size := by omega
    try (have z1_0 : w.heap.size < w1.heap.size := by omega)
    try (have z1_1 : w.heap.size + 1 < w1.heap.size := by omega)
    try (have z1_2 : w.heap.size + 1 + 1 < w1.heap.size := by omega)
    try (have z1_3 : w.heap.size + 1 + 1 + 1 < w1.heap.size := by omega)
    have b1 : Below w.heap.size w w1 := Below.trans (by (repeat (first | (with_reducible refine Below.drewN ?_) | (with_reducible refine Below.drew ?_) | ((with_reducible refine Below.alloc ?_ ?_ _); rotate_left; (first | omega | (simp <;> omega))) | ((with_reducible refine Below.setCell ?_ ?_ _); rotate_left; (first | omega | (simp <;> omega))) | (with_reducible exact Below.refl _ _) | (with_reducible assumption)))) (hb1.mono (by first | omega | (simp <;> omega)))
    go_wp2
    go_ret
    exact ⟨rfl, by (repeat (first | (with_reducible refine Below.drewN ?_) | (with_reducible refine Below.drew ?_) | ((with_reducible refine Below.alloc ?_ ?_ _); rotate_left; (first | omega | (simp <;> omega))) | ((with_reducible refine Below.setCell ?_ ?_ _); rotate_left; (first | omega | (simp <;> omega))) | (with_reducible exact Below.refl _ _) | (with_reducible assumption)))⟩

  rw [h1] at K1
  rcases (Bool.eq_false_or_eq_true (ringB n2 i2 && finTo xs2 n2)).symm with h2 | h2
  · have e : (((((ringB n1 i1 && finTo xs1 n1) && (ringB n2 i2 && finTo xs2 n2)) && (okF k1 [f1_0, f1_1, f1_2] [f1_3, f1_4] && (k1 == 1))) && (okF k2 [f2_0, f2_1, f2_2] [f2_3, f2_4] && (k2 == 5))) && (finTo [x1, x2] 2)) = false := by rw [h1, Bool.true_and, h2, Bool.false_and, Bool.false_and, Bool.false_and]
    rw [h2] at K2
    rw [e]
    clear e h1 h2
    go_enter Tryd.func35, Tryd.ntmps35
    go_wp2_with fail
    refine (K1.out _ (by (repeat (first | (with_reducible refine Below.drewN ?_) | (with_reducible refine Below.drew ?_) | ((with_reducible refine Below.alloc ?_ ?_ _); rotate_left; (first | omega | (simp <;> omega))) | ((with_reducible refine Below.setCell ?_ ?_ _); rotate_left; (first | omega | (simp <;> omega))) | (with_reducible exact Below.refl _ _) | (with_reducible assumption))))).mono ?_
    rintro e w1 ⟨rfl, hb1⟩
    obtain ⟨hc1, hf1, hz1⟩ := bcell hb1
    try simp at hz1
    have zb1 : w.heap.size ≤ w1.heap.size := by omega
    try (have z1_0 : w.heap.size < w1.heap.size := by omega)
    try (have z1_1 : w.heap.size + 1 < w1.heap.size := by omega)
    try (have z1_2 : w.heap.size + 1 + 1 < w1.heap.size := by omega)
    try (have z1_3 : w.heap.size + 1 + 1 + 1 < w1.heap.size := by omega)
    have b1 : Below w.heap.size w w1 := Below.trans (by (repeat (first | (with_reducible refine Below.drewN ?_) | (with_reducible refine Below.drew ?_) | ((with_reducible refine Below.alloc ?_ ?_ _); rotate_left; (first | omega | (simp <;> omega))) | ((with_reducible refine Below.setCell ?_ ?_ _); rotate_left; (first | omega | (simp <;> omega))) | (with_reducible exact Below.refl _ _) | (with_reducible assumption)))) (hb1.mono (by first | omega | (simp <;> omega)))
    go_wp2_with fail
    refine (K2.out _ (by (repeat (first | (with_reducible refine Below.drewN ?_) | (with_reducible refine Below.drew ?_) | ((with_reducible refine Below.alloc ?_ ?_ _); rotate_left; (first | omega | (simp <;> omega))) | ((with_reducible refine Below.setCell ?_ ?_ _); rotate_left; (first | omega | (simp <;> omega))) | (with_reducible exact Below.refl _ _) | (with_reducible assumption))))).mono ?_
    rintro e w2 ⟨rfl, hb2⟩
    obtain ⟨hc2, hf2, hz2⟩ := bcell hb2
    try simp at hz2
    have zb2 : w.heap.size ≤ w2.heap.size := by omega
    try (have z2_0 : w.heap.size < w2.heap.size := by omega)
    try (have z2_1 : w.heap.size + 1 < w2.heap.size := by omega)
    try (have z2_2 : w.heap.size + 1 + 1 < w2.heap.size := by omega)
    try (have z2_3 : w.heap.size + 1 + 1 + 1 < w2.heap.size := by omega)
    have b2 : Below w.heap.size w w2 := Below.trans (by (repeat (first | (with_reducible refine Below.drewN ?_) | (with_reducible refine Below.drew ?_) | ((with_reducible refine Below.alloc ?_ ?_ _); rotate_left; (first | omega | (simp <;> omega))) | ((with_reducible refine Below.setCell ?_ ?_ _); rotate_left; (first | omega | (simp <;> omega))) | (with_reducible exact Below.refl _ _) | (with_reducible assumption)))) (hb2.mono (by first | omega | (simp <;> omega)))
    go_wp2
    go_ret
    exact ⟨rfl, by (repeat (first | (with_reducible refine Below.drewN ?_) | (with_reducible refine Below.drew ?_) | ((with_reducible refine Below.alloc ?_ ?_ _); rotate_left; (first | omega | (simp <;> omega))) | ((with_reducible refine Below.setCell ?_ ?_ _); rotate_left; (first | omega | (simp <;> omega))) | (with_reducible exact Below.refl _ _) | (with_reducible assumption)))⟩

  rw [h2] at K2
  rcases (Bool.eq_false_or_eq_true (okF k1 [f1_0, f1_1, f1_2] [f1_3, f1_4] && (k1 == 1))).symm with h3 | h3
  · have e : (((((ringB n1 i1 && finTo xs1 n1) && (ringB n2 i2 && finTo xs2 n2)) && (okF k1 [f1_0, f1_1, f1_2] [f1_3, f1_4] && (k1 == 1))) && (okF k2 [f2_0, f2_1, f2_2] [f2_3, f2_4] && (k2 == 5))) && (finTo [x1, x2] 2)) = false := by rw [h1, Bool.true_and, h2, Bool.true_and, h3, Bool.false_and, Bool.false_and]
    rw [h3] at K3
    rw [e]
    clear e h1 h2 h3
    go_enter Tryd.func35, Tryd.ntmps35
    go_wp2_with fail
    refine (K1.out _ (by (repeat (first | (with_reducible refine Below.drewN ?_) | (with_reducible refine Below.drew ?_) | ((with_reducible refine Below.alloc ?_ ?_ _); rotate_left; (first | omega | (simp <;> omega))) | ((with_reducible refine Below.setCell ?_ ?_ _); rotate_left; (first | omega | (simp <;> omega))) | (with_reducible exact Below.refl _ _) | (with_reducible assumption))))).mono ?_
    rintro e w1 ⟨rfl, hb1⟩
    obtain ⟨hc1, hf1, hz1⟩ := bcell hb1
    try simp at hz1
    have zb1 : w.heap.size ≤ w1.heap.size := by omega
    try (have z1_0 : w.heap.size < w1.heap.size := by omega)
    try (have z1_1 : w.heap.size + 1 < w1.heap.size := by omega)
    try (have z1_2 : w.heap.size + 1 + 1 < w1.heap.size := by omega)
    try (have z1_3 : w.heap.size + 1 + 1 + 1 < w1.heap.size := by omega)
    have b1 : Below w.heap.size w w1 := Below.trans (by (repeat (first | (with_reducible refine Below.drewN ?_) | (with_reducible refine Below.drew ?_) | ((with_reducible refine Below.alloc ?_ ?_ _); rotate_left; (first | omega | (simp <;> omega))) | ((with_reducible refine Below.setCell ?_ ?_ _); rotate_left; (first | omega | (simp <;> omega))) | (with_reducible exact Below.refl _ _) | (with_reducible assumption)))) (hb1.mono (by first | omega | (simp <;> omega)))
    go_wp2_with fail
    refine (K2.out _ (by (repeat (first | (with_reducible refine Below.drewN ?_) | (with_reducible refine Below.drew ?_) | ((with_reducible refine Below.alloc ?_ ?_ _); rotate_left; (first | omega | (simp <;> omega))) | ((with_reducible refine Below.setCell ?_ ?_ _); rotate_left; (first | omega | (simp <;> omega))) | (with_reducible exact Below.refl _ _) | (with_reducible assumption))))).mono ?_
    rintro e w2 ⟨rfl, hb2⟩
    obtain ⟨hc2, hf2, hz2⟩ := bcell hb2
    try simp at hz2
    have zb2 : w.heap.size ≤ w2.heap.size := by omega
    try (have z2_0 : w.heap.size < w2.heap.size := by omega)
    try (have z2_1 : w.heap.size + 1 < w2.heap.size := by omega)
    try (have z2_2 : w.heap.size + 1 + 1 < w2.heap.size := by omega)
    try (have z2_3 : w.heap.size + 1 + 1 + 1 < w2.heap.size := by omega)
    have b2 : Below w.heap.size w w2 := Below.trans (by (repeat (first | (with_reducible refine Below.drewN ?_) | (with_reducible refine Below.drew ?_) | ((with_reducible refine Below.alloc ?_ ?_ _); rotate_left; (first | omega | (simp <;> omega))) | ((with_reducible refine Below.setCell ?_ ?_ _); rotate_left; (first | omega | (simp <;> omega))) | (with_reducible exact Below.refl _ _) | (with_reducible assumption)))) (hb2.mono (by first | omega | (simp <;> omega)))
    go_wp2_with fail
    refine (K3.out _).mono ?_
    rintro e w3 ⟨rfl, hb3⟩
    obtain ⟨hc3, hf3, hz3⟩ := bcell hb3
    try simp at hz3
    have zb3 : w.heap.size ≤ w3.heap.size := by omega
    try (have z3_0 : w.heap.size < w3.heap.size := by omega)
    try (have z3_1 : w.heap.size + 1 < w3.heap.size := by omega)
    try (have z3_2 : w.heap.size + 1 + 1 < w3.heap.size := by omega)
    try (have z3_3 : w.heap.size + 1 + 1 + 1 < w3.heap.size := by omega)
    have b3 : Below w.heap.size w w3 := Below.trans (by (repeat (first | (with_reducible refine Below.drewN ?_) | (with_reducible refine Below.drew ?_) | ((with_reducible refine Below.alloc ?_ ?_ _); rotate_left; (first | omega | (simp <;> omega))) | ((with_reducible refine Below.setCell ?_ ?_ _); rotate_left; (first | omega | (simp <;> omega))) | (with_reducible exact Below.refl _ _) | (with_reducible assumption)))) (hb3.mono (by first | omega | (simp <;> omega)))
    go_wp2
    go_ret
    exact ⟨rfl, by (repeat (first | (with_reducible refine Below.drewN ?_) | (with_reducible refine Below.drew ?_) | ((with_reducible refine Below.alloc ?_ ?_ _); rotate_left; (first | omega | (simp <;> omega))) | ((with_reducible refine Below.setCell ?_ ?_ _); rotate_left; (first | omega | (simp <;> omega))) | (with_reducible exact Below.refl _ _) | (with_reducible assumption)))⟩

  rw [h3] at K3
  rcases (Bool.eq_false_or_eq_true (okF k2 [f2_0, f2_1, f2_2] [f2_3, f2_4] && (k2 == 5))).symm with h4 | h4
  · have e : (((((ringB n1 i1 && finTo xs1 n1) && (ringB n2 i2 && finTo xs2 n2)) && (okF k1 [f1_0, f1_1, f1_2] [f1_3, f1_4] && (k1 == 1))) && (okF k2 [f2_0, f2_1, f2_2] [f2_3, f2_4] && (k2 == 5))) && (finTo [x1, x2] 2)) = false := by rw [h1, Bool.true_and, h2, Bool.true_and, h3, Bool.true_and, h4, Bool.false_and]
    rw [h4] at K4
    rw [e]
    clear e h1 h2 h3 h4
    go_enter Tryd.func35, Tryd.ntmps35
    go_wp2_with fail
    refine (K1.out _ (by (repeat (first | (with_reducible refine Below.drewN ?_) | (with_reducible refine Below.drew ?_) | ((with_reducible refine Below.alloc ?_ ?_ _); rotate_left; (first | omega | (simp <;> omega))) | ((with_reducible refine Below.setCell ?_ ?_ _); rotate_left; (first | omega | (simp <;> omega))) | (with_reducible exact Below.refl _ _) | (with_reducible assumption))))).mono ?_
    rintro e w1 ⟨rfl, hb1⟩
    obtain ⟨hc1, hf1, hz1⟩ := bcell hb1
    try simp at hz1
    have zb1 : w.heap.size ≤ w1.heap.size := by omega
    try (have z1_0 : w.heap.size < w1.heap.size := by omega)
    try (have z1_1 : w.heap.size + 1 < w1.heap.size := by omega)
    try (have z1_2 : w.heap.size + 1 + 1 < w1.heap.size := by omega)
    try (have z1_3 : w.heap.size + 1 + 1 + 1 < w1.heap.size := by omega)
    have b1 : Below w.heap.size w w1 := Below.trans (by (repeat (first | (with_reducible refine Below.drewN ?_) | (with_reducible refine Below.drew ?_) | ((with_reducible refine Below.alloc ?_ ?_ _); rotate_left; (first | omega | (simp <;> omega))) | ((with_reducible refine Below.setCell ?_ ?_ _); rotate_left; (first | omega | (simp <;> omega))) | (with_reducible exact Below.refl _ _) | (with_reducible assumption)))) (hb1.mono (by first | omega | (simp <;> omega)))
    go_wp2_with fail
    refine (K2.out _ (by (repeat (first | (with_reducible refine Below.drewN ?_) | (with_reducible refine Below.drew ?_) | ((with_reducible refine Below.alloc ?_ ?_ _); rotate_left; (first | omega | (simp <;> omega))) | ((with_reducible refine Below.setCell ?_ ?_ _); rotate_left; (first | omega | (simp <;> omega))) | (with_reducible exact Below.refl _ _) | (with_reducible assumption))))).mono ?_
    rintro e w2 ⟨rfl, hb2⟩
    obtain ⟨hc2, hf2, hz2⟩ := bcell hb2
    try simp at hz2
    have zb2 : w.heap.size ≤ w2.heap.size := by omega
    try (have z2_0 : w.heap.size < w2.heap.size := by omega)
    try (have z2_1 : w.heap.size + 1 < w2.heap.size := by omega)
    try (have z2_2 : w.heap.size + 1 + 1 < w2.heap.size := by omega)
    try (have z2_3 : w.heap.size + 1 + 1 + 1 < w2.heap.size := by omega)
    have b2 : Below w.heap.size w w2 := Below.trans (by (repeat (first | (with_reducible refine Below.drewN ?_) | (with_reducible refine Below.drew ?_) | ((with_reducible refine Below.alloc ?_ ?_ _); rotate_left; (first | omega | (simp <;> omega))) | ((with_reducible refine Below.setCell ?_ ?_ _); rotate_left; (first | omega | (simp <;> omega))) | (with_reducible exact Below.refl _ _) | (with_reducible assumption)))) (hb2.mono (by first | omega | (simp <;> omega)))
    go_wp2_with fail
    refine (K3.out _).mono ?_
    rintro e w3 ⟨rfl, hb3⟩
    obtain ⟨hc3, hf3, hz3⟩ := bcell hb3
    try simp at hz3
    have zb3 : w.heap.size ≤ w3.heap.size := by omega
    try (have z3_0 : w.heap.size < w3.heap.size := by omega)
    try (have z3_1 : w.heap.size + 1 < w3.heap.size := by omega)
    try (have z3_2 : w.heap.size + 1 + 1 < w3.heap.size := by omega)
    try (have z3_3 : w.heap.size + 1 + 1 + 1 < w3.heap.size := by omega)
    have b3 : Below w.heap.size w w3 := Below.trans (by (repeat (first | (with_reducible refine Below.drewN ?_) | (with_reducible refine Below.drew ?_) | ((with_reducible refine Below.alloc ?_ ?_ _); rotate_left; (first | omega | (simp <;> omega))) | ((with_reducible refine Below.setCell ?_ ?_ _); rotate_left; (first | omega | (simp <;> omega))) | (with_reducible exact Below.refl _ _) | (with_reducible assumption)))) (hb3.mono (by first | omega | (simp <;> omega)))
    go_wp2_with fail
    refine (K4.out _).mono ?_
    rintro e w4 ⟨rfl, hb4⟩
    obtain ⟨hc4, hf4, hz4⟩ := bcell hb4
    try simp at hz4
    have zb4 : w.heap.size ≤ w4.heap.size := by omega
    try (have z4_0 : w.heap.size < w4.heap.size := by omega)
    try (have z4_1 : w.heap.size + 1 < w4.heap.size := by omega)
    try (have z4_2 : w.heap.size + 1 + 1 < w4.heap.size := by omega)
    try (have z4_3 : w.heap.size + 1 + 1 + 1 < w4.heap.size := by omega)
    have b4 : Below w.heap.size w w4 := Below.trans (by (repeat (first | (with_reducible refine Below.drewN ?_) | (with_reducible refine Below.drew ?_) | ((with_reducible refine Below.alloc ?_ ?_ _); rotate_left; (first | omega | (simp <;> omega))) | ((with_reducible refine Below.setCell ?_ ?_ _); rotate_left; (first | omega | (simp <;> omega))) | (with_reducible exact Below.refl _ _) | (with_reducible assumption)))) (hb4.mono (by first | omega | (simp <;> omega)))
    go_wp2
    go_ret
    exact ⟨rfl, by (repeat (first | (with_reducible refine Below.drewN ?_) | (with_reducible refine Below.drew ?_) | ((with_reducible refine Below.alloc ?_ ?_ _); rotate_left; (first | omega | (simp <;> omega))) | ((with_reducible refine Below.setCell ?_ ?_ _); rotate_left; (first | omega | (simp <;> omega))) | (with_reducible exact Below.refl _ _) | (with_reducible assumption)))⟩

  rw [h4] at K4
  have e : (((((ringB n1 i1 && finTo xs1 n1) && (ringB n2 i2 && finTo xs2 n2)) && (okF k1 [f1_0, f1_1, f1_2] [f1_3, f1_4] && (k1 == 1))) && (okF k2 [f2_0, f2_1, f2_2] [f2_3, f2_4] && (k2 == 5))) && (finTo [x1, x2] 2)) = (finTo [x1, x2] 2) := by rw [h1, Bool.true_and, h2, Bool.true_and, h3, Bool.true_and, h4, Bool.true_and]
  rw [e]
  clear e h1 h2 h3 h4
  go_enter Tryd.func35, Tryd.ntmps35
  go_wp2_with fail
  refine (K1.out _ (by (repeat (first | (with_reducible refine Below.drewN ?_) | (with_reducible refine Below.drew ?_) | ((with_reducible refine Below.alloc ?_ ?_ _); rotate_left; (first | omega | (simp <;> omega))) | ((with_reducible refine Below.setCell ?_ ?_ _); rotate_left; (first | omega | (simp <;> omega))) | (with_reducible exact Below.refl _ _) | (with_reducible assumption))))).mono ?_
  rintro e w1 ⟨rfl, hb1⟩
  obtain ⟨hc1, hf1, hz1⟩ := bcell hb1
  try simp at hz1
  have zb1 : w.heap.size ≤ w1.heap.size := by omega
  try (have z1_0 : w.heap.size < w1.heap.size := by omega)
  try (have z1_1 : w.heap.size + 1 < w1.heap.size := by omega)
  try (have z1_2 : w.heap.size + 1 + 1 < w1.heap.size := by omega)
  try (have z1_3 : w.heap.size + 1 + 1 + 1 < w1.heap.size := by omega)
  have b1 : Below w.heap.size w w1 := Below.trans (by (repeat (first | (with_reducible refine Below.drewN ?_) | (with_reducible refine Below.drew ?_) | ((with_reducible refine Below.alloc ?_ ?_ _); rotate_left; (first | omega | (simp <;> omega))) | ((with_reducible refine Below.setCell ?_ ?_ _); rotate_left; (first | omega | (simp <;> omega))) | (with_reducible exact Below.refl _ _) | (with_reducible assumption)))) (hb1.mono (by first | omega | (simp <;> omega)))
  go_wp2_with fail
  refine (K2.out _ (by (repeat (first | (with_reducible refine Below.drewN ?_) | (with_reducible refine Below.drew ?_) | ((with_reducible refine Below.alloc ?_ ?_ _); rotate_left; (first | omega | (simp <;> omega))) | ((with_reducible refine Below.setCell ?_ ?_ _); rotate_left; (first | omega | (simp <;> omega))) | (with_reducible exact Below.refl _ _) | (with_reducible assumption))))).mono ?_
  rintro e w2 ⟨rfl, hb2⟩
  obtain ⟨hc2, hf2, hz2⟩ := bcell hb2
  try simp at hz2
  have zb2 : w.heap.size ≤ w2.heap.size := by omega
  try (have z2_0 : w.heap.size < w2.heap.size := by omega)
  try (have z2_1 : w.heap.size + 1 < w2.heap.size := by omega)
  try (have z2_2 : w.heap.size + 1 + 1 < w2.heap.size := by omega)
  try (have z2_3 : w.heap.size + 1 + 1 + 1 < w2.heap.size := by omega)
  have b2 : Below w.heap.size w w2 := Below.trans (by (repeat (first | (with_reducible refine Below.drewN ?_) | (with_reducible refine Below.drew ?_) | ((with_reducible refine Below.alloc ?_ ?_ _); rotate_left; (first | omega | (simp <;> omega))) | ((with_reducible refine Below.setCell ?_ ?_ _); rotate_left; (first | omega | (simp <;> omega))) | (with_reducible exact Below.refl _ _) | (with_reducible assumption)))) (hb2.mono (by first | omega | (simp <;> omega)))
  go_wp2_with fail
  refine (K3.out _).mono ?_
  rintro e w3 ⟨rfl, hb3⟩
  obtain ⟨hc3, hf3, hz3⟩ := bcell hb3
  try simp at hz3
  have zb3 : w.heap.size ≤ w3.heap.size := by omega
  try (have z3_0 : w.heap.size < w3.heap.size := by omega)
  try (have z3_1 : w.heap.size + 1 < w3.heap.size := by omega)
  try (have z3_2 : w.heap.size + 1 + 1 < w3.heap.size := by omega)
  try (have z3_3 : w.heap.size + 1 + 1 + 1 < w3.heap.size := by omega)
  have b3 : Below w.heap.size w w3 := Below.trans (by (repeat (first | (with_reducible refine Below.drewN ?_) | (with_reducible refine Below.drew ?_) | ((with_reducible refine Below.alloc ?_ ?_ _); rotate_left; (first | omega | (simp <;> omega))) | ((with_reducible refine Below.setCell ?_ ?_ _); rotate_left; (first | omega | (simp <;> omega))) | (with_reducible exact Below.refl _ _) | (with_reducible assumption)))) (hb3.mono (by first | omega | (simp <;> omega)))
  go_wp2_with fail
  refine (K4.out _).mono ?_
  rintro e w4 ⟨rfl, hb4⟩
  obtain ⟨hc4, hf4, hz4⟩ := bcell hb4
  try simp at hz4
  have zb4 : w.heap.size ≤ w4.heap.size := by omega
  try (have z4_0 : w.heap.size < w4.heap.size := by omega)
  try (have z4_1 : w.heap.size + 1 < w4.heap.size := by omega)
  try (have z4_2 : w.heap.size + 1 + 1 < w4.heap.size := by omega)
  try (have z4_3 : w.heap.size + 1 + 1 + 1 < w4.heap.size := by omega)
  have b4 : Below w.heap.size w w4 := Below.trans (by (repeat (first | (with_reducible refine Below.drewN ?_) | (with_reducible refine Below.drew ?_) | ((with_reducible refine Below.alloc ?_ ?_ _); rotate_left; (first | omega | (simp <;> omega))) | ((with_reducible refine Below.setCell ?_ ?_ _); rotate_left; (first | omega | (simp <;> omega))) | (with_reducible exact Below.refl _ _) | (with_reducible assumption)))) (hb4.mono (by first | omega | (simp <;> omega)))
  go_wp2_with fail
  refine (K5.out _ _ (OF.fs (g := _) (OF.made' (xs := [x1, x2]) (by simp) rfl (by omega)))).mono ?_
  rintro e w' ⟨rfl, dq5, rfl⟩
  go_wp2
  go_ret
  exact ⟨rfl, by (repeat (first | (with_reducible refine Below.drewN ?_) | (with_reducible refine Below.drew ?_) | ((with_reducible refine Below.alloc ?_ ?_ _); rotate_left; (first | omega | (simp <;> omega))) | ((with_reducible refine Below.setCell ?_ ?_ _); rotate_left; (first | omega | (simp <;> omega))) | (with_reducible exact Below.refl _ _) | (with_reducible assumption)))⟩

theorem c_ValidJet (a1 : Option Addr) (n1 c1 : Nat) (xs1 : List Nat) (i1 : Int) (a2 : Option Addr) (n2 c2 : Nat) (xs2 : List Nat) (i2 : Int) (k1 : Int) (f1_0 f1_1 f1_2 f1_3 f1_4 : Nat) (k2 : Int) (f2_0 f2_1 f2_2 f2_3 f2_4 : Nat) (x1 : Nat) (x2 : Nat) (w : World) (h_1 : FS w a1 n1 c1 xs1) (h_2 : FS w a2 n2 c2 xs2) :
    Calls Tryd.prog 35 #[.agg #[.slice a1 n1 c1, .int .i64 i1, .slice a2 n2 c2, .int .i64 i2, .int .i64 k1, .float .f32 f1_0, .float .f32 f1_1, .float .f32 f1_2, .float .f32 f1_3, .float .f32 f1_4, .int .i64 k2, .float .f32 f2_0, .float .f32 f2_1, .float .f32 f2_2, .float .f32 f2_3, .float .f32 f2_4, .float .f32 x1, .float .f32 x2]] w (RetV (.bool (valJet n1 xs1 i1 n2 xs2 i2 k1 f1_0 f1_1 f1_2 f1_3 f1_4 k2 f2_0 f2_1 f2_2 f2_3 f2_4 x1 x2)) w) := c_ValidJet_ a1 n1 c1 xs1 i1 a2 n2 c2 xs2 i2 k1 f1_0 f1_1 f1_2 f1_3 f1_4 k2 f2_0 f2_1 f2_2 f2_3 f2_4 x1 x2 w h_1 h_2


end Go.Proofs.YtbdanadmabemdaaDoor
