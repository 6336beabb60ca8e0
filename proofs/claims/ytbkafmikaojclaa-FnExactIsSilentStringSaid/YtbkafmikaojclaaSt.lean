
/-
Contracts of the tests of strings.
-/
import Derived.Test.YtbkafmikaojclaaRh
import Derived.Test.YtbkafmikaojclaaRi
import Derived.Test.YtbkafmikaojclaaLi
import Derived.Test.YtbkafmikaojclaaQu
namespace Go.Proofs.Ytbkafmikaojclaa
open Go Go.RowKit Fl
set_option linter.unusedVariables false
def valString (n1 : Nat) (xs1 : List Nat) (i1 : Int) (k1 : Int) (f1_0 f1_1 f1_2 f1_3 f1_4 : Nat) (k2 : Int) (f2_0 f2_1 f2_2 f2_3 f2_4 : Nat) (x1 : Nat) : Bool := (((ringB n1 i1) && (okF k1 [f1_0, f1_1, f1_2] [f1_3, f1_4] && (k1 == 3))) && (okF k2 [f2_0, f2_1, f2_2] [f2_3, f2_4] && (k2 == 2))) && (finB x1)
theorem c_ValidString_ (a1 : Option Addr) (n1 c1 : Nat) (xs1 : List Nat) (i1 : Int) (k1 : Int) (f1_0 f1_1 f1_2 f1_3 f1_4 : Nat) (k2 : Int) (f2_0 f2_1 f2_2 f2_3 f2_4 : Nat) (x1 : Nat) (w : World) (h_1 : FS w a1 n1 c1 xs1) :
    Calls Try.prog 87 #[.agg #[.slice a1 n1 c1, .int .i64 i1, .int .i64 k1, .float .f32 f1_0, .float .f32 f1_1, .float .f32 f1_2, .float .f32 f1_3, .float .f32 f1_4, .int .i64 k2, .float .f32 f2_0, .float .f32 f2_1, .float .f32 f2_2, .float .f32 f2_3, .float .f32 f2_4, .float .f32 x1]] w (RetV (.bool ((((ringB n1 i1) && (okF k1 [f1_0, f1_1, f1_2] [f1_3, f1_4] && (k1 == 3))) && (okF k2 [f2_0, f2_1, f2_2] [f2_3, f2_4] && (k2 == 2))) && (finB x1))) w) := by
  have K1 : Hid (∀ W, Calls Try.prog 129 #[.agg #[.slice a1 n1 c1, .int .i64 i1]] W (RetV (.bool (ringB n1 i1)) W)) := fun W => c_ValidRing _ _ _ _ W (Nat.le_trans h_1.cap h_1.big)
  have K2 : Hid (∀ W, Calls Try.prog 91 #[.agg #[.int .i64 k1, .float .f32 f1_0, .float .f32 f1_1, .float .f32 f1_2, .float .f32 f1_3, .float .f32 f1_4], .int .i64 3] W (RetV (.bool (okF k1 [f1_0, f1_1, f1_2] [f1_3, f1_4] && (k1 == 3))) W)) := fun W => c_isFilter _ _ _ _ _ _ _ W
  have K3 : Hid (∀ W, Calls Try.prog 91 #[.agg #[.int .i64 k2, .float .f32 f2_0, .float .f32 f2_1, .float .f32 f2_2, .float .f32 f2_3, .float .f32 f2_4], .int .i64 2] W (RetV (.bool (okF k2 [f2_0, f2_1, f2_2] [f2_3, f2_4] && (k2 == 2))) W)) := fun W => c_isFilter _ _ _ _ _ _ _ W
  have K4 : Hid (∀ W, Calls Try.prog 84 #[.float .f32 x1] W (RetB (finB x1) W)) := fun W => c_isFinite _ W
  clear h_1
  rcases (Bool.eq_false_or_eq_true (ringB n1 i1)).symm with h1 | h1
  · have e : ((((ringB n1 i1) && (okF k1 [f1_0, f1_1, f1_2] [f1_3, f1_4] && (k1 == 3))) && (okF k2 [f2_0, f2_1, f2_2] [f2_3, f2_4] && (k2 == 2))) && (finB x1)) = false := by rw [h1, Bool.false_and, Bool.false_and, Bool.false_and]
    rw [h1] at K1
    rw [e]
    clear e h1
    go_enter Try.func87, Try.ntmps87
    go_wp2_with fail
    refine (K1.out _).mono ?_
    rintro e w1 ⟨rfl, hb1⟩
    obtain ⟨hc1, hf1, hz1⟩ := bcell hb1
    try simp at hz1
    have zb1 : w.heap.size ≤ w1.heap.size := by omega
    try (have z1_0 : w.heap.size < w1.heap.size := by omega)
    try (have z1_1 : w.heap.size + 1 < w1.heap.size := by omega)
    try (have z1_2 : w.heap.size + 1 + 1 < w1.heap.size := by omega)
    try (have z1_3 : w.heap.size + 1 + 1 + 1 < w1.heap.size := by omega)
    have b1 : Below w.heap.size w w1 := Below.trans (by (repeat (first | (with_reducible refine Below.drewN ?_) | (with_reducible refine Below.drew ?_) | ((with_reducible refine Below.alloc ?_ ?_ _); rotate_left; (first | omega | (simp <;> omega))) | ((with_reducible refine Below.setCell ?_ ?_ _); rotate_left; (first | omega | (simp <;> omega))) | (with_reducible exact Below.refl _ _) | (with_reducible assumption)))) (hb1.mono (by first | omega | (simp <;> omega)))
    go_wp2
    go_ret
    exact ⟨rfl, by (repeat (first | (with_reducible refine Below.drewN ?_) | (with_reducible refine Below.drew ?_) | ((with_reducible refine Below.alloc ?_ ?_ _); rotate_left; (first | omega | (simp <;> omega))) | ((with_reducible refine Below.setCell ?_ ?_ _); rotate_left; (first | omega | (simp <;> omega))) | (with_reducible exact Below.refl _ _) | (with_reducible assumption)))⟩

  rw [h1] at K1
  rcases (Bool.eq_false_or_eq_true (okF k1 [f1_0, f1_1, f1_2] [f1_3, f1_4] && (k1 == 3))).symm with h2 | h2
  · have e : ((((ringB n1 i1) && (okF k1 [f1_0, f1_1, f1_2] [f1_3, f1_4] && (k1 == 3))) && (okF k2 [f2_0, f2_1, f2_2] [f2_3, f2_4] && (k2 == 2))) && (finB x1)) = false := by rw [h1, Bool.true_and, h2, Bool.false_and, Bool.false_and]
    rw [h2] at K2
    rw [e]
    clear e h1 h2
    go_enter Try.func87, Try.ntmps87
    go_wp2_with fail
    refine (K1.out _).mono ?_
    rintro e w1 ⟨rfl, hb1⟩
    obtain ⟨hc1, hf1, hz1⟩ := bcell hb1
    try simp at hz1
    have zb1 : w.heap.size ≤ w1.heap.size := by omega
    try (have z1_0 : w.heap.size < w1.heap.size := by omega)
    try (have z1_1 : w.heap.size + 1 < w1.heap.size := by omega)
    try (have z1_2 : w.heap.size + 1 + 1 < w1.heap.size := by omega)
    try (have z1_3 : w.heap.size + 1 + 1 + 1 < w1.heap.size := by omega)
    have b1 : Below w.heap.size w w1 := Below.trans (by (repeat (first | (with_reducible refine Below.drewN ?_) | (with_reducible refine Below.drew ?_) | ((with_reducible refine Below.alloc ?_ ?_ _); rotate_left; (first | omega | (simp <;> omega))) | ((with_reducible refine Below.setCell ?_ ?_ _); rotate_left; (first | omega | (simp <;> omega))) | (with_reducible exact Below.refl _ _) | (with_reducible assumption)))) (hb1.mono (by first | omega | (simp <;> omega)))
    go_wp2_with fail
    refine (K2.out _).mono ?_
    rintro e w2 ⟨rfl, hb2⟩
    obtain ⟨hc2, hf2, hz2⟩ := bcell hb2
    try simp at hz2
    have zb2 : w.heap.size ≤ w2.heap.size := by omega
    try (have z2_0 : w.heap.size < w2.heap.size := by omega)
    try (have z2_1 : w.heap.size + 1 < w2.heap.size := by omega)
    try (have z2_2 : w.heap.size + 1 + 1 < w2.heap.size := by omega)
    try (have z2_3 : w.heap.size + 1 + 1 + 1 < w2.heap.size := by omega)
    have b2 : Below w.heap.size w w2 := Below.trans (by (repeat (first | (with_reducible refine Below.drewN ?_) | (with_reducible refine Below.drew ?_) | ((with_reducible refine Below.alloc ?_ ?_ _); rotate_left; (first | omega | (simp <;> omega))) | ((with_reducible refine Below.setCell ?_ ?_ _); rotate_left; (first | omega | (simp <;> omega))) | (with_reducible exact Below.refl _ _) | (with_reducible assumption)))) (hb2.mono (by first | omega | (simp <;> omega)))
    go_wp2
    go_ret
    exact ⟨rfl, by (repeat (first | (with_reducible refine Below.drewN ?_) | (with_reducible refine Below.drew ?_) | ((with_reducible refine Below.alloc ?_ ?_ _); rotate_left; (first | omega | (simp <;> omega))) | ((with_reducible refine Below.setCell ?_ ?_ _); rotate_left; (first | omega | (simp <;> omega))) | (with_reducible exact Below.refl _ _) | (with_reducible assumption)))⟩

  rw [h2] at K2
  rcases (Bool.eq_false_or_eq_true (okF k2 [f2_0, f2_1, f2_2] [f2_3, f2_4] && (k2 == 2))).symm with h3 | h3
  · have e : ((((ringB n1 i1) && (okF k1 [f1_0, f1_1, f1_2] [f1_3, f1_4] && (k1 == 3))) && (okF k2 [f2_0, f2_1, f2_2] [f2_3, f2_4] && (k2 == 2))) && (finB x1)) = false := by rw [h1, Bool.true_and, h2, Bool.true_and, h3, Bool.false_and]
    rw [h3] at K3
    rw [e]
    clear e h1 h2 h3
    go_enter Try.func87, Try.ntmps87
    go_wp2_with fail
    refine (K1.out _).mono ?_
    rintro e w1 ⟨rfl, hb1⟩
    obtain ⟨hc1, hf1, hz1⟩ := bcell hb1
    try simp at hz1
    have zb1 : w.heap.size ≤ w1.heap.size := by omega
    try (have z1_0 : w.heap.size < w1.heap.size := by omega)
    try (have z1_1 : w.heap.size + 1 < w1.heap.size := by omega)
    try (have z1_2 : w.heap.size + 1 + 1 < w1.heap.size := by omega)
    try (have z1_3 : w.heap.size + 1 + 1 + 1 < w1.heap.size := by omega)
    have b1 : Below w.heap.size w w1 := Below.trans (by (repeat (first | (with_reducible refine Below.drewN ?_) | (with_reducible refine Below.drew ?_) | ((with_reducible refine Below.alloc ?_ ?_ _); rotate_left; (first | omega | (simp <;> omega))) | ((with_reducible refine Below.setCell ?_ ?_ _); rotate_left; (first | omega | (simp <;> omega))) | (with_reducible exact Below.refl _ _) | (with_reducible assumption)))) (hb1.mono (by first | omega | (simp <;> omega)))
    go_wp2_with fail
    refine (K2.out _).mono ?_
    rintro e w2 ⟨rfl, hb2⟩
    obtain ⟨hc2, hf2, hz2⟩ := bcell hb2
    try simp at hz2
    have zb2 : w.heap.size ≤ w2.heap.size := by omega
    try (have z2_0 : w.heap.size < w2.heap.size := by omega)
    try (have z2_1 : w.heap.size + 1 < w2.heap.size := by omega)
    try (have z2_2 : w.heap.size + 1 + 1 < w2.heap.size := by omega)
    try (have z2_3 : w.heap.size + 1 + 1 + 1 < w2.heap.size := by omega)
    have b2 : Below w.heap.size w w2 := Below.trans (by (repeat (first | (with_reducible refine Below.drewN ?_) | (with_reducible refine Below.drew ?_) | ((with_reducible refine Below.alloc ?_ ?_ _); rotate_left; (first | omega | (simp <;> omega))) | ((with_reducible refine Below.setCell ?_ ?_ _); rotate_left; (first | omega | (simp <;> omega))) | (with_reducible exact Below.refl _ _) | (with_reducible assumption)))) (hb2.mono (by first | omega | (simp <;> omega)))
    go_wp2_with fail
    refine (K3.out _).mono ?_
    rintro e w3 ⟨rfl, hb3⟩
    obtain ⟨hc3, hf3, hz3⟩ := bcell hb3
    try simp at hz3
    have zb3 : w.heap.size ≤ w3.heap.size := by omega
    try (have z3_0 : w.heap.size < w3.heap.size := by omega)
    try (have z3_1 : w.heap.size + 1 < w3.heap.size := by omega)
    try (have z3_2 : w.heap.size + 1 + 1 < w3.heap.size := by omega)
    try (have z3_3 : w.heap.size + 1 + 1 + 1 < w3.heap.size := by omega)
    have b3 : Below w.heap.size w w3 := Below.trans (by (repeat (first | (with_reducible refine Below.drewN ?_) | (with_reducible refine Below.drew ?_) | ((with_reducible refine Below.alloc ?_ ?_ _); rotate_left; (first | omega | (simp <;> omega))) | ((with_reducible refine Below.setCell ?_ ?_ _); rotate_left; (first | omega | (simp <;> omega))) | (with_reducible exact Below.refl _ _) | (with_reducible assumption)))) (hb3.mono (by first | omega | (simp <;> omega)))
    go_wp2
    go_ret
    exact ⟨rfl, by (repeat (first | (with_reducible refine Below.drewN ?_) | (with_reducible refine Below.drew ?_) | ((with_reducible refine Below.alloc ?_ ?_ _); rotate_left; (first | omega | (simp <;> omega))) | ((with_reducible refine Below.setCell ?_ ?_ _); rotate_left; (first | omega | (simp <;> omega))) | (with_reducible exact Below.refl _ _) | (with_reducible assumption)))⟩

  rw [h3] at K3
  have e : ((((ringB n1 i1) && (okF k1 [f1_0, f1_1, f1_2] [f1_3, f1_4] && (k1 == 3))) && (okF k2 [f2_0, f2_1, f2_2] [f2_3, f2_4] && (k2 == 2))) && (finB x1)) = (finB x1) := by rw [h1, Bool.true_and, h2, Bool.true_and, h3, Bool.true_and]
  rw [e]
  clear e h1 h2 h3
  go_enter Try.func87, Try.ntmps87
  go_wp2_with fail
  refine (K1.out _).mono ?_
  rintro e w1 ⟨rfl, hb1⟩
  obtain ⟨hc1, hf1, hz1⟩ := bcell hb1
  try simp at hz1
  have zb1 : w.heap.size ≤ w1.heap.size := by omega
  try (have z1_0 : w.heap.size < w1.heap.size := by omega)
  try (have z1_1 : w.heap.size + 1 < w1.heap.size := by omega)
  try (have z1_2 : w.heap.size + 1 + 1 < w1.heap.size := by omega)
  try (have z1_3 : w.heap.size + 1 + 1 + 1 < w1.heap.size := by omega)
  have b1 : Below w.heap.size w w1 := Below.trans (by (repeat (first | (with_reducible refine Below.drewN ?_) | (with_reducible refine Below.drew ?_) | ((with_reducible refine Below.alloc ?_ ?_ _); rotate_left; (first | omega | (simp <;> omega))) | ((with_reducible refine Below.setCell ?_ ?_ _); rotate_left; (first | omega | (simp <;> omega))) | (with_reducible exact Below.refl _ _) | (with_reducible assumption)))) (hb1.mono (by first | omega | (simp <;> omega)))
  go_wp2_with fail
  refine (K2.out _).mono ?_
  rintro e w2 ⟨rfl, hb2⟩
  obtain ⟨hc2, hf2, hz2⟩ := bcell hb2
  try simp at hz2
  have zb2 : w.heap.size ≤ w2.heap.size := by omega
  try (have z2_0 : w.heap.size < w2.heap.size := by omega)
  try (have z2_1 : w.heap.size + 1 < w2.heap.size := by omega)
  try (have z2_2 : w.heap.size + 1 + 1 < w2.heap.size := by omega)
  try (have z2_3 : w.heap.size + 1 + 1 + 1 < w2.heap.size := by omega)
  have b2 : Below w.heap.size w w2 := Below.trans (by (repeat (first | (with_reducible refine Below.drewN ?_) | (with_reducible refine Below.drew ?_) | ((with_reducible refine Below.alloc ?_ ?_ _); rotate_left; (first | omega | (simp <;> omega))) | ((with_reducible refine Below.setCell ?_ ?_ _); rotate_left; (first | omega | (simp <;> omega))) | (with_reducible exact Below.refl _ _) | (with_reducible assumption)))) (hb2.mono (by first | omega | (simp <;> omega)))
  go_wp2_with fail
  refine (K3.out _).mono ?_
  rintro e w3 ⟨rfl, hb3⟩
  obtain ⟨hc3, hf3, hz3⟩ := bcell hb3
  try simp at hz3
  have zb3 : w.heap.size ≤ w3.heap.size := by omega
  try (have z3_0 : w.heap.size < w3.heap.size := by omega)
  try (have z3_1 : w.heap.size + 1 < w3.heap.size := by omega)
  try (have z3_2 : w.heap.size + 1 + 1 < w3.heap.size := by omega)
  try (have z3_3 : w.heap.size + 1 + 1 + 1 < w3.heap.size := by omega)
  have b3 : Below w.heap.size w w3 := Below.trans (by (repeat (first | (with_reducible refine Below.drewN ?_) | (with_reducible refine Below.drew ?_) | ((with_reducible refine Below.alloc ?_ ?_ _); rotate_left; (first | omega | (simp <;> omega))) | ((with_reducible refine Below.setCell ?_ ?_ _); rotate_left; (first | omega | (simp <;> omega))) | (with_reducible exact Below.refl _ _) | (with_reducible assumption)))) (hb3.mono (by first | omega | (simp <;> omega)))
  go_wp2_with fail
  refine (K4.out _).mono ?_
  rintro e w' ⟨rfl, dq4, rfl⟩
  go_wp2
  go_ret
  exact ⟨rfl, by (repeat (first | (with_reducible refine Below.drewN ?_) | (with_reducible refine Below.drew ?_) | ((with_reducible refine Below.alloc ?_ ?_ _); rotate_left; (first | omega | (simp <;> omega))) | ((with_reducible refine Below.setCell ?_ ?_ _); rotate_left; (first | omega | (simp <;> omega))) | (with_reducible exact Below.refl _ _) | (with_reducible assumption)))⟩

theorem c_ValidString (a1 : Option Addr) (n1 c1 : Nat) (xs1 : List Nat) (i1 : Int) (k1 : Int) (f1_0 f1_1 f1_2 f1_3 f1_4 : Nat) (k2 : Int) (f2_0 f2_1 f2_2 f2_3 f2_4 : Nat) (x1 : Nat) (w : World) (h_1 : FS w a1 n1 c1 xs1) :
    Calls Try.prog 87 #[.agg #[.slice a1 n1 c1, .int .i64 i1, .int .i64 k1, .float .f32 f1_0, .float .f32 f1_1, .float .f32 f1_2, .float .f32 f1_3, .float .f32 f1_4, .int .i64 k2, .float .f32 f2_0, .float .f32 f2_1, .float .f32 f2_2, .float .f32 f2_3, .float .f32 f2_4, .float .f32 x1]] w (RetV (.bool (valString n1 xs1 i1 k1 f1_0 f1_1 f1_2 f1_3 f1_4 k2 f2_0 f2_1 f2_2 f2_3 f2_4 x1)) w) := c_ValidString_ a1 n1 c1 xs1 i1 k1 f1_0 f1_1 f1_2 f1_3 f1_4 k2 f2_0 f2_1 f2_2 f2_3 f2_4 x1 w h_1

theorem valString_r1 {n1 : Nat} {xs1 : List Nat} {i1 : Int} {k1 : Int} {f1_0 f1_1 f1_2 f1_3 f1_4 : Nat} {k2 : Int} {f2_0 f2_1 f2_2 f2_3 f2_4 : Nat} {x1 : Nat} (hv : valString n1 xs1 i1 k1 f1_0 f1_1 f1_2 f1_3 f1_4 k2 f2_0 f2_1 f2_2 f2_3 f2_4 x1 = true) : ringB n1 i1 = true := by
  unfold valString at hv
  simp only [Bool.and_eq_true] at hv
  exact hv.1.1.1

set_option maxRecDepth 100000 in
set_option maxHeartbeats 1000000 in
theorem c_l03Ok (b o : Nat) (a1 : Option Addr) (n1 c1 : Nat) (xs1 : List Nat) (i1 : Int) (k1 : Int) (f1_0 f1_1 f1_2 f1_3 f1_4 : Nat) (k2 : Int) (f2_0 f2_1 f2_2 f2_3 f2_4 : Nat) (x1 : Nat) (w : World) (h_1 : FS w a1 n1 c1 xs1)
    (hb : b < w.heap.size)
    (e0 : w.cell? ⟨b, o, none⟩ = some (.slice a1 n1 c1))
    (e1 : w.cell? ⟨b, o + 1, none⟩ = some (.int .i64 i1))
    (e2 : w.cell? ⟨b, o + 2, none⟩ = some (.int .i64 k1))
    (e3 : w.cell? ⟨b, o + 3, none⟩ = some (.float .f32 f1_0))
    (e4 : w.cell? ⟨b, o + 4, none⟩ = some (.float .f32 f1_1))
    (e5 : w.cell? ⟨b, o + 5, none⟩ = some (.float .f32 f1_2))
    (e6 : w.cell? ⟨b, o + 6, none⟩ = some (.float .f32 f1_3))
    (e7 : w.cell? ⟨b, o + 7, none⟩ = some (.float .f32 f1_4))
    (e8 : w.cell? ⟨b, o + 8, none⟩ = some (.int .i64 k2))
    (e9 : w.cell? ⟨b, o + 9, none⟩ = some (.float .f32 f2_0))
    (e10 : w.cell? ⟨b, o + 10, none⟩ = some (.float .f32 f2_1))
    (e11 : w.cell? ⟨b, o + 11, none⟩ = some (.float .f32 f2_2))
    (e12 : w.cell? ⟨b, o + 12, none⟩ = some (.float .f32 f2_3))
    (e13 : w.cell? ⟨b, o + 13, none⟩ = some (.float .f32 f2_4))
    (e14 : w.cell? ⟨b, o + 14, none⟩ = some (.float .f32 x1)) :
    Calls Try.prog 85 #[.pointer (some ⟨b, o, none⟩)] w (RetV (.bool ((((ringB n1 i1) && (okF k1 [f1_0, f1_1, f1_2] [f1_3, f1_4] && (k1 == 3))) && (okF k2 [f2_0, f2_1, f2_2] [f2_3, f2_4] && (k2 == 2))) && (finB x1))) w) := by
  have K1 : Hid (∀ W, Grow w W → Calls Try.prog 127 #[.pointer (some ⟨b, o, none⟩)] W (RetB (ringB n1 i1) W)) := fun W hW => by
    have hc := Grow.cells hW
    exact c_l02Ring b o _ _ _ _ W (Nat.le_trans h_1.cap h_1.big) (by rw [hc _ _ hb]; exact e0) (by rw [hc _ _ hb]; exact e1)
  have K2 : Hid (∀ W, Grow w W → Calls Try.prog 128 #[.pointer (some ⟨b, o + 2, none⟩)] W (RetB (okF k1 [f1_0, f1_1, f1_2] [f1_3, f1_4]) W)) := fun W hW => by
    have hc := Grow.cells hW
    refine c_l02Ok b (o + 2) k1 [f1_0, f1_1, f1_2] [f1_3, f1_4] W ?_ (three _ ?_ ?_ ?_) (two _ ?_ ?_) <;> rw [hc _ _ hb] <;> assumption
  have K4 : Hid (∀ W, Grow w W → Calls Try.prog 128 #[.pointer (some ⟨b, o + 8, none⟩)] W (RetB (okF k2 [f2_0, f2_1, f2_2] [f2_3, f2_4]) W)) := fun W hW => by
    have hc := Grow.cells hW
    refine c_l02Ok b (o + 8) k2 [f2_0, f2_1, f2_2] [f2_3, f2_4] W ?_ (three _ ?_ ?_ ?_) (two _ ?_ ?_) <;> rw [hc _ _ hb] <;> assumption
  have K6 : Hid (∀ W, Calls Try.prog 80 #[.float .f32 x1] W (RetB (finB x1) W)) := fun W => c_l01Finite _ W
  clear h_1
  rcases (Bool.eq_false_or_eq_true (ringB n1 i1)).symm with h1 | h1
  · have e : ((((ringB n1 i1) && (okF k1 [f1_0, f1_1, f1_2] [f1_3, f1_4] && (k1 == 3))) && (okF k2 [f2_0, f2_1, f2_2] [f2_3, f2_4] && (k2 == 2))) && (finB x1)) = false := by rw [h1]; simp
    rw [e]
    rw [h1] at K1
    clear e h1
    go_enter Try.func85, Try.ntmps85
    go_wp2_with fail
    refine (K1.out _ (show Below _ _ _ by (repeat (first | (with_reducible refine Below.drewN ?_) | (with_reducible refine Below.drew ?_) | ((with_reducible refine Below.alloc ?_ ?_ _); rotate_left; (first | omega | (simp <;> omega))) | ((with_reducible refine Below.setCell ?_ ?_ _); rotate_left; (first | omega | (simp <;> omega))) | (with_reducible exact Below.refl _ _) | (with_reducible assumption))))).mono ?_
    rintro e w' ⟨rfl, dq1, rfl⟩
    go_wp2
    go_ret
    exact ⟨rfl, by (repeat (first | (with_reducible refine Below.drewN ?_) | (with_reducible refine Below.drew ?_) | ((with_reducible refine Below.alloc ?_ ?_ _); rotate_left; (first | omega | (simp <;> omega))) | ((with_reducible refine Below.setCell ?_ ?_ _); rotate_left; (first | omega | (simp <;> omega))) | (with_reducible exact Below.refl _ _) | (with_reducible assumption)))⟩

  rw [h1] at K1
  rcases (Bool.eq_false_or_eq_true (okF k1 [f1_0, f1_1, f1_2] [f1_3, f1_4])).symm with h2 | h2
  · have e : ((((ringB n1 i1) && (okF k1 [f1_0, f1_1, f1_2] [f1_3, f1_4] && (k1 == 3))) && (okF k2 [f2_0, f2_1, f2_2] [f2_3, f2_4] && (k2 == 2))) && (finB x1)) = false := by rw [h1, h2]; simp
    rw [e]
    rw [h2] at K2
    clear e h1 h2
    go_enter Try.func85, Try.ntmps85
    go_wp2_with fail
    refine (K1.out _ (show Below _ _ _ by (repeat (first | (with_reducible refine Below.drewN ?_) | (with_reducible refine Below.drew ?_) | ((with_reducible refine Below.alloc ?_ ?_ _); rotate_left; (first | omega | (simp <;> omega))) | ((with_reducible refine Below.setCell ?_ ?_ _); rotate_left; (first | omega | (simp <;> omega))) | (with_reducible exact Below.refl _ _) | (with_reducible assumption))))).mono ?_
    rintro e w' ⟨rfl, dq1, rfl⟩
    go_wp2_with fail
    refine (K2.out _ (show Below _ _ _ by (repeat (first | (with_reducible refine Below.drewN ?_) | (with_reducible refine Below.drew ?_) | ((with_reducible refine Below.alloc ?_ ?_ _); rotate_left; (first | omega | (simp <;> omega))) | ((with_reducible refine Below.setCell ?_ ?_ _); rotate_left; (first | omega | (simp <;> omega))) | (with_reducible exact Below.refl _ _) | (with_reducible assumption))))).mono ?_
    rintro e w' ⟨rfl, dq2, rfl⟩
    go_wp2
    go_ret
    exact ⟨rfl, by (repeat (first | (with_reducible refine Below.drewN ?_) | (with_reducible refine Below.drew ?_) | ((with_reducible refine Below.alloc ?_ ?_ _); rotate_left; (first | omega | (simp <;> omega))) | ((with_reducible refine Below.setCell ?_ ?_ _); rotate_left; (first | omega | (simp <;> omega))) | (with_reducible exact Below.refl _ _) | (with_reducible assumption)))⟩

  rw [h2] at K2
  rcases (Bool.eq_false_or_eq_true (k1 == 3)).symm with h3 | h3
  · have e : ((((ringB n1 i1) && (okF k1 [f1_0, f1_1, f1_2] [f1_3, f1_4] && (k1 == 3))) && (okF k2 [f2_0, f2_1, f2_2] [f2_3, f2_4] && (k2 == 2))) && (finB x1)) = false := by rw [h1, h2, h3]; simp
    rw [e]
    clear e h1 h2
    go_enter Try.func85, Try.ntmps85
    go_wp2_with fail
    refine (K1.out _ (show Below _ _ _ by (repeat (first | (with_reducible refine Below.drewN ?_) | (with_reducible refine Below.drew ?_) | ((with_reducible refine Below.alloc ?_ ?_ _); rotate_left; (first | omega | (simp <;> omega))) | ((with_reducible refine Below.setCell ?_ ?_ _); rotate_left; (first | omega | (simp <;> omega))) | (with_reducible exact Below.refl _ _) | (with_reducible assumption))))).mono ?_
    rintro e w' ⟨rfl, dq1, rfl⟩
    go_wp2_with fail
    refine (K2.out _ (show Below _ _ _ by (repeat (first | (with_reducible refine Below.drewN ?_) | (with_reducible refine Below.drew ?_) | ((with_reducible refine Below.alloc ?_ ?_ _); rotate_left; (first | omega | (simp <;> omega))) | ((with_reducible refine Below.setCell ?_ ?_ _); rotate_left; (first | omega | (simp <;> omega))) | (with_reducible exact Below.refl _ _) | (with_reducible assumption))))).mono ?_
    rintro e w' ⟨rfl, dq2, rfl⟩
    go_wp2
    go_ret
    exact ⟨rfl, by (repeat (first | (with_reducible refine Below.drewN ?_) | (with_reducible refine Below.drew ?_) | ((with_reducible refine Below.alloc ?_ ?_ _); rotate_left; (first | omega | (simp <;> omega))) | ((with_reducible refine Below.setCell ?_ ?_ _); rotate_left; (first | omega | (simp <;> omega))) | (with_reducible exact Below.refl _ _) | (with_reducible assumption)))⟩

  rcases (Bool.eq_false_or_eq_true (okF k2 [f2_0, f2_1, f2_2] [f2_3, f2_4])).symm with h4 | h4
  · have e : ((((ringB n1 i1) && (okF k1 [f1_0, f1_1, f1_2] [f1_3, f1_4] && (k1 == 3))) && (okF k2 [f2_0, f2_1, f2_2] [f2_3, f2_4] && (k2 == 2))) && (finB x1)) = false := by rw [h1, h2, h3, h4]; simp
    rw [e]
    rw [h4] at K4
    clear e h1 h2 h4
    go_enter Try.func85, Try.ntmps85
    go_wp2_with fail
    refine (K1.out _ (show Below _ _ _ by (repeat (first | (with_reducible refine Below.drewN ?_) | (with_reducible refine Below.drew ?_) | ((with_reducible refine Below.alloc ?_ ?_ _); rotate_left; (first | omega | (simp <;> omega))) | ((with_reducible refine Below.setCell ?_ ?_ _); rotate_left; (first | omega | (simp <;> omega))) | (with_reducible exact Below.refl _ _) | (with_reducible assumption))))).mono ?_
    rintro e w' ⟨rfl, dq1, rfl⟩
    go_wp2_with fail
    refine (K2.out _ (show Below _ _ _ by (repeat (first | (with_reducible refine Below.drewN ?_) | (with_reducible refine Below.drew ?_) | ((with_reducible refine Below.alloc ?_ ?_ _); rotate_left; (first | omega | (simp <;> omega))) | ((with_reducible refine Below.setCell ?_ ?_ _); rotate_left; (first | omega | (simp <;> omega))) | (with_reducible exact Below.refl _ _) | (with_reducible assumption))))).mono ?_
    rintro e w' ⟨rfl, dq2, rfl⟩
    go_wp2_with fail
    refine (K4.out _ (show Below _ _ _ by (repeat (first | (with_reducible refine Below.drewN ?_) | (with_reducible refine Below.drew ?_) | ((with_reducible refine Below.alloc ?_ ?_ _); rotate_left; (first | omega | (simp <;> omega))) | ((with_reducible refine Below.setCell ?_ ?_ _); rotate_left; (first | omega | (simp <;> omega))) | (with_reducible exact Below.refl _ _) | (with_reducible assumption))))).mono ?_
    rintro e w' ⟨rfl, dq4, rfl⟩
    go_wp2
    go_ret
    exact ⟨rfl, by (repeat (first | (with_reducible refine Below.drewN ?_) | (with_reducible refine Below.drew ?_) | ((with_reducible refine Below.alloc ?_ ?_ _); rotate_left; (first | omega | (simp <;> omega))) | ((with_reducible refine Below.setCell ?_ ?_ _); rotate_left; (first | omega | (simp <;> omega))) | (with_reducible exact Below.refl _ _) | (with_reducible assumption)))⟩

  rw [h4] at K4
  rcases (Bool.eq_false_or_eq_true (k2 == 2)).symm with h5 | h5
  · have e : ((((ringB n1 i1) && (okF k1 [f1_0, f1_1, f1_2] [f1_3, f1_4] && (k1 == 3))) && (okF k2 [f2_0, f2_1, f2_2] [f2_3, f2_4] && (k2 == 2))) && (finB x1)) = false := by rw [h1, h2, h3, h4, h5]; simp
    rw [e]
    clear e h1 h2 h4
    go_enter Try.func85, Try.ntmps85
    go_wp2_with fail
    refine (K1.out _ (show Below _ _ _ by (repeat (first | (with_reducible refine Below.drewN ?_) | (with_reducible refine Below.drew ?_) | ((with_reducible refine Below.alloc ?_ ?_ _); rotate_left; (first | omega | (simp <;> omega))) | ((with_reducible refine Below.setCell ?_ ?_ _); rotate_left; (first | omega | (simp <;> omega))) | (with_reducible exact Below.refl _ _) | (with_reducible assumption))))).mono ?_
    rintro e w' ⟨rfl, dq1, rfl⟩
    go_wp2_with fail
    refine (K2.out _ (show Below _ _ _ by (repeat (first | (with_reducible refine Below.drewN ?_) | (with_reducible refine Below.drew ?_) | ((with_reducible refine Below.alloc ?_ ?_ _); rotate_left; (first | omega | (simp <;> omega))) | ((with_reducible refine Below.setCell ?_ ?_ _); rotate_left; (first | omega | (simp <;> omega))) | (with_reducible exact Below.refl _ _) | (with_reducible assumption))))).mono ?_
    rintro e w' ⟨rfl, dq2, rfl⟩
    go_wp2_with fail
    refine (K4.out _ (show Below _ _ _ by (repeat (first | (with_reducible refine Below.drewN ?_) | (with_reducible refine Below.drew ?_) | ((with_reducible refine Below.alloc ?_ ?_ _); rotate_left; (first | omega | (simp <;> omega))) | ((with_reducible refine Below.setCell ?_ ?_ _); rotate_left; (first | omega | (simp <;> omega))) | (with_reducible exact Below.refl _ _) | (with_reducible assumption))))).mono ?_
    rintro e w' ⟨rfl, dq4, rfl⟩
    go_wp2
    go_ret
    exact ⟨rfl, by (repeat (first | (with_reducible refine Below.drewN ?_) | (with_reducible refine Below.drew ?_) | ((with_reducible refine Below.alloc ?_ ?_ _); rotate_left; (first | omega | (simp <;> omega))) | ((with_reducible refine Below.setCell ?_ ?_ _); rotate_left; (first | omega | (simp <;> omega))) | (with_reducible exact Below.refl _ _) | (with_reducible assumption)))⟩

  have e : ((((ringB n1 i1) && (okF k1 [f1_0, f1_1, f1_2] [f1_3, f1_4] && (k1 == 3))) && (okF k2 [f2_0, f2_1, f2_2] [f2_3, f2_4] && (k2 == 2))) && (finB x1)) = (finB x1) := by rw [h1, h2, h3, h4, h5]; simp
  rw [e]
  clear e h1 h2 h4
  go_enter Try.func85, Try.ntmps85
  go_wp2_with fail
  refine (K1.out _ (show Below _ _ _ by (repeat (first | (with_reducible refine Below.drewN ?_) | (with_reducible refine Below.drew ?_) | ((with_reducible refine Below.alloc ?_ ?_ _); rotate_left; (first | omega | (simp <;> omega))) | ((with_reducible refine Below.setCell ?_ ?_ _); rotate_left; (first | omega | (simp <;> omega))) | (with_reducible exact Below.refl _ _) | (with_reducible assumption))))).mono ?_
  rintro e w' ⟨rfl, dq1, rfl⟩
  go_wp2_with fail
  refine (K2.out _ (show Below _ _ _ by (repeat (first | (with_reducible refine Below.drewN ?_) | (with_reducible refine Below.drew ?_) | ((with_reducible refine Below.alloc ?_ ?_ _); rotate_left; (first | omega | (simp <;> omega))) | ((with_reducible refine Below.setCell ?_ ?_ _); rotate_left; (first | omega | (simp <;> omega))) | (with_reducible exact Below.refl _ _) | (with_reducible assumption))))).mono ?_
  rintro e w' ⟨rfl, dq2, rfl⟩
  go_wp2_with fail
  refine (K4.out _ (show Below _ _ _ by (repeat (first | (with_reducible refine Below.drewN ?_) | (with_reducible refine Below.drew ?_) | ((with_reducible refine Below.alloc ?_ ?_ _); rotate_left; (first | omega | (simp <;> omega))) | ((with_reducible refine Below.setCell ?_ ?_ _); rotate_left; (first | omega | (simp <;> omega))) | (with_reducible exact Below.refl _ _) | (with_reducible assumption))))).mono ?_
  rintro e w' ⟨rfl, dq4, rfl⟩
  go_wp2_with fail
  refine (K6.out _).mono ?_
  rintro e w' ⟨rfl, dq6, rfl⟩
  go_wp2
  go_ret
  exact ⟨rfl, by (repeat (first | (with_reducible refine Below.drewN ?_) | (with_reducible refine Below.drew ?_) | ((with_reducible refine Below.alloc ?_ ?_ _); rotate_left; (first | omega | (simp <;> omega))) | ((with_reducible refine Below.setCell ?_ ?_ _); rotate_left; (first | omega | (simp <;> omega))) | (with_reducible exact Below.refl _ _) | (with_reducible assumption)))⟩

end Go.Proofs.Ytbkafmikaojclaa
