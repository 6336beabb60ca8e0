
/-
Contracts of the program's test whether Jets are the same.
-/
import Derived.Test.YtbkafmikaojclaaSc
namespace Go.Proofs.Ytbkafmikaojclaa
open Go Go.RowKit Fl
set_option maxHeartbeats 1000000 in
theorem c_SameJet (a1 : Option Addr) (n1 c1 : Nat) (xs1 : List Nat) (i1 : Int) (a2 : Option Addr) (n2 c2 : Nat) (xs2 : List Nat) (i2 : Int) (k1 : Int) (f1_0 f1_1 f1_2 f1_3 f1_4 : Nat) (k2 : Int) (f2_0 f2_1 f2_2 f2_3 f2_4 : Nat) (x1 : Nat) (x2 : Nat) (y_a1 : Option Addr) (y_n1 y_c1 : Nat) (y_xs1 : List Nat) (y_i1 : Int) (y_a2 : Option Addr) (y_n2 y_c2 : Nat) (y_xs2 : List Nat) (y_i2 : Int) (y_k1 : Int) (y_f1_0 y_f1_1 y_f1_2 y_f1_3 y_f1_4 : Nat) (y_k2 : Int) (y_f2_0 y_f2_1 y_f2_2 y_f2_3 y_f2_4 : Nat) (y_x1 : Nat) (y_x2 : Nat) (w : World) (h_1 : FS w a1 n1 c1 xs1) (h_2 : FS w a2 n2 c2 xs2) (y_h_1 : FS w y_a1 y_n1 y_c1 y_xs1) (y_h_2 : FS w y_a2 y_n2 y_c2 y_xs2) :
    Calls Try.prog 28 #[.agg #[.slice a1 n1 c1, .int .i64 i1, .slice a2 n2 c2, .int .i64 i2, .int .i64 k1, .float .f32 f1_0, .float .f32 f1_1, .float .f32 f1_2, .float .f32 f1_3, .float .f32 f1_4, .int .i64 k2, .float .f32 f2_0, .float .f32 f2_1, .float .f32 f2_2, .float .f32 f2_3, .float .f32 f2_4, .float .f32 x1, .float .f32 x2], .agg #[.slice y_a1 y_n1 y_c1, .int .i64 y_i1, .slice y_a2 y_n2 y_c2, .int .i64 y_i2, .int .i64 y_k1, .float .f32 y_f1_0, .float .f32 y_f1_1, .float .f32 y_f1_2, .float .f32 y_f1_3, .float .f32 y_f1_4, .int .i64 y_k2, .float .f32 y_f2_0, .float .f32 y_f2_1, .float .f32 y_f2_2, .float .f32 y_f2_3, .float .f32 y_f2_4, .float .f32 y_x1, .float .f32 y_x2]] w (RetV (.bool ((((((sameR n1 i1 xs1 y_n1 y_i1 y_xs1) && (sameR n2 i2 xs2 y_n2 y_i2 y_xs2)) && (sameF k1 [f1_0, f1_1, f1_2] [f1_3, f1_4] y_k1 [y_f1_0, y_f1_1, y_f1_2] [y_f1_3, y_f1_4])) && (sameF k2 [f2_0, f2_1, f2_2] [f2_3, f2_4] y_k2 [y_f2_0, y_f2_1, y_f2_2] [y_f2_3, y_f2_4])) && (sameB x1 y_x1)) && (sameB x2 y_x2))) w) := by
  have K1 : Hid (∀ W, Below w.heap.size w W → Calls Try.prog 76 #[.agg #[.slice a1 n1 c1, .int .i64 i1], .agg #[.slice y_a1 y_n1 y_c1, .int .i64 y_i1]] W (RetV (.bool (sameR n1 i1 xs1 y_n1 y_i1 y_xs1)) W)) := fun W hb => c_SameRing _ _ _ _ _ _ _ _ _ _ W (h_1.below hb (Nat.le_refl _)) (y_h_1.below hb (Nat.le_refl _))
  have K2 : Hid (∀ W, Below w.heap.size w W → Calls Try.prog 76 #[.agg #[.slice a2 n2 c2, .int .i64 i2], .agg #[.slice y_a2 y_n2 y_c2, .int .i64 y_i2]] W (RetV (.bool (sameR n2 i2 xs2 y_n2 y_i2 y_xs2)) W)) := fun W hb => c_SameRing _ _ _ _ _ _ _ _ _ _ W (h_2.below hb (Nat.le_refl _)) (y_h_2.below hb (Nat.le_refl _))
  have K3 : Hid (∀ W, Calls Try.prog 77 #[.agg #[.int .i64 k1, .float .f32 f1_0, .float .f32 f1_1, .float .f32 f1_2, .float .f32 f1_3, .float .f32 f1_4], .agg #[.int .i64 y_k1, .float .f32 y_f1_0, .float .f32 y_f1_1, .float .f32 y_f1_2, .float .f32 y_f1_3, .float .f32 y_f1_4]] W (RetV (.bool (sameF k1 [f1_0, f1_1, f1_2] [f1_3, f1_4] y_k1 [y_f1_0, y_f1_1, y_f1_2] [y_f1_3, y_f1_4])) W)) := fun W => c_SameFilter _ _ _ _ _ _ _ _ _ _ _ _ W
  have K4 : Hid (∀ W, Calls Try.prog 77 #[.agg #[.int .i64 k2, .float .f32 f2_0, .float .f32 f2_1, .float .f32 f2_2, .float .f32 f2_3, .float .f32 f2_4], .agg #[.int .i64 y_k2, .float .f32 y_f2_0, .float .f32 y_f2_1, .float .f32 y_f2_2, .float .f32 y_f2_3, .float .f32 y_f2_4]] W (RetV (.bool (sameF k2 [f2_0, f2_1, f2_2] [f2_3, f2_4] y_k2 [y_f2_0, y_f2_1, y_f2_2] [y_f2_3, y_f2_4])) W)) := fun W => c_SameFilter _ _ _ _ _ _ _ _ _ _ _ _ W
  have K5 : Hid (∀ W, Calls Try.prog 78 #[.float .f32 x1, .float .f32 y_x1] W (RetB (sameB x1 y_x1) W)) := fun W => c_SameSample _ _ W
  have K6 : Hid (∀ W, Calls Try.prog 78 #[.float .f32 x2, .float .f32 y_x2] W (RetB (sameB x2 y_x2) W)) := fun W => c_SameSample _ _ W
  clear h_1 y_h_1 h_2 y_h_2
  rcases (Bool.eq_false_or_eq_true (sameR n1 i1 xs1 y_n1 y_i1 y_xs1)).symm with h1 | h1
  · rw [h1] at K1
    have e : ((((((sameR n1 i1 xs1 y_n1 y_i1 y_xs1) && (sameR n2 i2 xs2 y_n2 y_i2 y_xs2)) && (sameF k1 [f1_0, f1_1, f1_2] [f1_3, f1_4] y_k1 [y_f1_0, y_f1_1, y_f1_2] [y_f1_3, y_f1_4])) && (sameF k2 [f2_0, f2_1, f2_2] [f2_3, f2_4] y_k2 [y_f2_0, y_f2_1, y_f2_2] [y_f2_3, y_f2_4])) && (sameB x1 y_x1)) && (sameB x2 y_x2)) = false := by rw [h1]; simp
    rw [e]
    clear e h1
    go_enter Try.func28, Try.ntmps28
    go_wp2_with fail
    refine (K1.out _ (by (repeat (first | (with_reducible refine Below.drewN ?_) | (with_reducible refine Below.drew ?_) | ((with_reducible refine Below.alloc ?_ ?_ _); rotate_left; (first | omega | (simp <;> omega))) | ((with_reducible refine Below.setCell ?_ ?_ _); rotate_left; (first | omega | (simp <;> omega))) | (with_reducible exact Below.refl _ _) | (with_reducible assumption))))).mono ?_
    rintro e w1 ⟨rfl, hb1⟩
    obtain ⟨hc1, hf1, hz1⟩ := bcell hb1
    try simp at hz1
    have zb1 : w.heap.size ≤ w1.heap.size := by omega
    try (have z1_0 : w.heap.size < w1.heap.size := by omega)
    try (have z1_1 : w.heap.size + 1 < w1.heap.size := by omega)
    try (have z1_2 : w.heap.size + 1 + 1 < w1.heap.size := by omega)
    try (have z1_3 : w.heap.size + 1 + 1 + 1 < w1.heap.size := by omega)
    have b1 : Below w.heap.size w w1 := Below.trans (by (repeat (first | (with_reducible refine Below.drewN ?_) | (with_reducible refine Below.drew ?_) | ((with_reducible refine Below.alloc ?_ ?_ _); rotate_left; (first | omega | (simp <;> omega))) | ((with_reducible refine Below.setCell ?_ ?_ _); rotate_left; (first | omega | (simp <;> omega))) | (with_reducible exact Below.refl _ _) | (with_reducible assumption)))) (hb1.mono (by first | omega | (simp <;> omega)))
    go_wp2
    go_ret
    exact ⟨rfl, by (repeat (first | (with_reducible refine Below.drewN ?_) | (with_reducible refine Below.drew ?_) | ((with_reducible refine Below.alloc ?_ ?_ _); rotate_left; (first | omega | (simp <;> omega))) | ((with_reducible refine Below.setCell ?_ ?_ _); rotate_left; (first | omega | (simp <;> omega))) | (with_reducible exact Below.refl _ _) | (with_reducible assumption)))⟩

  rw [h1] at K1
  rcases (Bool.eq_false_or_eq_true (sameR n2 i2 xs2 y_n2 y_i2 y_xs2)).symm with h2 | h2
  · rw [h2] at K2
    have e : ((((((sameR n1 i1 xs1 y_n1 y_i1 y_xs1) && (sameR n2 i2 xs2 y_n2 y_i2 y_xs2)) && (sameF k1 [f1_0, f1_1, f1_2] [f1_3, f1_4] y_k1 [y_f1_0, y_f1_1, y_f1_2] [y_f1_3, y_f1_4])) && (sameF k2 [f2_0, f2_1, f2_2] [f2_3, f2_4] y_k2 [y_f2_0, y_f2_1, y_f2_2] [y_f2_3, y_f2_4])) && (sameB x1 y_x1)) && (sameB x2 y_x2)) = false := by rw [h1, h2]; simp
    rw [e]
    clear e h1 h2
    go_enter Try.func28, Try.ntmps28
    go_wp2_with fail
    refine (K1.out _ (by (repeat (first | (with_reducible refine Below.drewN ?_) | (with_reducible refine Below.drew ?_) | ((with_reducible refine Below.alloc ?_ ?_ _); rotate_left; (first | omega | (simp <;> omega))) | ((with_reducible refine Below.setCell ?_ ?_ _); rotate_left; (first | omega | (simp <;> omega))) | (with_reducible exact Below.refl _ _) | (with_reducible assumption))))).mono ?_
    rintro e w1 ⟨rfl, hb1⟩
    obtain ⟨hc1, hf1, hz1⟩ := bcell hb1
    try simp at hz1
    have zb1 : w.heap.size ≤ w1.heap.size := by omega
    try (have z1_0 : w.heap.size < w1.heap.size := by omega)
    try (have z1_1 : w.heap.size + 1 < w1.heap.size := by omega)
    try (have z1_2 : w.heap.size + 1 + 1 < w1.heap.size := by omega)
    try (have z1_3 : w.heap.size + 1 + 1 + 1 < w1.heap.size := by omega)
    have b1 : Below w.heap.size w w1 := Below.trans (by (repeat (first | (with_reducible refine Below.drewN ?_) | (with_reducible refine Below.drew ?_) | ((with_reducible refine Below.alloc ?_ ?_ _); rotate_left; (first | omega | (simp <;> omega))) | ((with_reducible refine Below.setCell ?_ ?_ _); rotate_left; (first | omega | (simp <;> omega))) | (with_reducible exact Below.refl _ _) | (with_reducible assumption)))) (hb1.mono (by first | omega | (simp <;> omega)))
    go_wp2_with fail
    refine (K2.out _ (by (repeat (first | (with_reducible refine Below.drewN ?_) | (with_reducible refine Below.drew ?_) | ((with_reducible refine Below.alloc ?_ ?_ _); rotate_left; (first | omega | (simp <;> omega))) | ((with_reducible refine Below.setCell ?_ ?_ _); rotate_left; (first | omega | (simp <;> omega))) | (with_reducible exact Below.refl _ _) | (with_reducible assumption))))).mono ?_
    rintro e w2 ⟨rfl, hb2⟩
    obtain ⟨hc2, hf2, hz2⟩ := bcell hb2
    try simp at hz2
    have zb2 : w.heap.size ≤ w2.heap.size := by omega
    try (have z2_0 : w.heap.size < w2.heap.size := by omega)
    try (have z2_1 : w.heap.size + 1 < w2.heap.size := by omega)
    try (have z2_2 : w.heap.size + 1 + 1 < w2.heap.size := by omega)
    try (have z2_3 : w.heap.size + 1 + 1 + 1 < w2.heap.size := by omega)
    have b2 : Below w.heap.size w w2 := Below.trans (by (repeat (first | (with_reducible refine Below.drewN ?_) | (with_reducible refine Below.drew ?_) | ((with_reducible refine Below.alloc ?_ ?_ _); rotate_left; (first | omega | (simp <;> omega))) | ((with_reducible refine Below.setCell ?_ ?_ _); rotate_left; (first | omega | (simp <;> omega))) | (with_reducible exact Below.refl _ _) | (with_reducible assumption)))) (hb2.mono (by first | omega | (simp <;> omega)))
    go_wp2
    go_ret
    exact ⟨rfl, by (repeat (first | (with_reducible refine Below.drewN ?_) | (with_reducible refine Below.drew ?_) | ((with_reducible refine Below.alloc ?_ ?_ _); rotate_left; (first | omega | (simp <;> omega))) | ((with_reducible refine Below.setCell ?_ ?_ _); rotate_left; (first | omega | (simp <;> omega))) | (with_reducible exact Below.refl _ _) | (with_reducible assumption)))⟩

  rw [h2] at K2
  rcases (Bool.eq_false_or_eq_true (sameF k1 [f1_0, f1_1, f1_2] [f1_3, f1_4] y_k1 [y_f1_0, y_f1_1, y_f1_2] [y_f1_3, y_f1_4])).symm with h3 | h3
  · rw [h3] at K3
    have e : ((((((sameR n1 i1 xs1 y_n1 y_i1 y_xs1) && (sameR n2 i2 xs2 y_n2 y_i2 y_xs2)) && (sameF k1 [f1_0, f1_1, f1_2] [f1_3, f1_4] y_k1 [y_f1_0, y_f1_1, y_f1_2] [y_f1_3, y_f1_4])) && (sameF k2 [f2_0, f2_1, f2_2] [f2_3, f2_4] y_k2 [y_f2_0, y_f2_1, y_f2_2] [y_f2_3, y_f2_4])) && (sameB x1 y_x1)) && (sameB x2 y_x2)) = false := by rw [h1, h2, h3]; simp
    rw [e]
    clear e h1 h2 h3
    go_enter Try.func28, Try.ntmps28
    go_wp2_with fail
    refine (K1.out _ (by (repeat (first | (with_reducible refine Below.drewN ?_) | (with_reducible refine Below.drew ?_) | ((with_reducible refine Below.alloc ?_ ?_ _); rotate_left; (first | omega | (simp <;> omega))) | ((with_reducible refine Below.setCell ?_ ?_ _); rotate_left; (first | omega | (simp <;> omega))) | (with_reducible exact Below.refl _ _) | (with_reducible assumption))))).mono ?_
    rintro e w1 ⟨rfl, hb1⟩
    obtain ⟨hc1, hf1, hz1⟩ := bcell hb1
    try simp at hz1
    have zb1 : w.heap.size ≤ w1.heap.size := by omega
    try (have z1_0 : w.heap.size < w1.heap.size := by omega)
    try (have z1_1 : w.heap.size + 1 < w1.heap.size := by omega)
    try (have z1_2 : w.heap.size + 1 + 1 < w1.heap.size := by omega)
    try (have z1_3 : w.heap.size + 1 + 1 + 1 < w1.heap.size := by omega)
    have b1 : Below w.heap.size w w1 := Below.trans (by (repeat (first | (with_reducible refine Below.drewN ?_) | (with_reducible refine Below.drew ?_) | ((with_reducible refine Below.alloc ?_ ?_ _); rotate_left; (first | omega | (simp <;> omega))) | ((with_reducible refine Below.setCell ?_ ?_ _); rotate_left; (first | omega | (simp <;> omega))) | (with_reducible exact Below.refl _ _) | (with_reducible assumption)))) (hb1.mono (by first | omega | (simp <;> omega)))
    go_wp2_with fail
    refine (K2.out _ (by (repeat (first | (with_reducible refine Below.drewN ?_) | (with_reducible refine Below.drew ?_) | ((with_reducible refine Below.alloc ?_ ?_ _); rotate_left; (first | omega | (simp <;> omega))) | ((with_reducible refine Below.setCell ?_ ?_ _); rotate_left; (first | omega | (simp <;> omega))) | (with_reducible exact Below.refl _ _) | (with_reducible assumption))))).mono ?_
    rintro e w2 ⟨rfl, hb2⟩
    obtain ⟨hc2, hf2, hz2⟩ := bcell hb2
    try simp at hz2
    have zb2 : w.heap.size ≤ w2.heap.size := by omega
    try (have z2_0 : w.heap.size < w2.heap.size := by omega)
    try (have z2_1 : w.heap.size + 1 < w2.heap.size := by omega)
    try (have z2_2 : w.heap.size + 1 + 1 < w2.heap.size := by omega)
    try (have z2_3 : w.heap.size + 1 + 1 + 1 < w2.heap.size := by omega)
    have b2 : Below w.heap.size w w2 := Below.trans (by (repeat (first | (with_reducible refine Below.drewN ?_) | (with_reducible refine Below.drew ?_) | ((with_reducible refine Below.alloc ?_ ?_ _); rotate_left; (first | omega | (simp <;> omega))) | ((with_reducible refine Below.setCell ?_ ?_ _); rotate_left; (first | omega | (simp <;> omega))) | (with_reducible exact Below.refl _ _) | (with_reducible assumption)))) (hb2.mono (by first | omega | (simp <;> omega)))
    go_wp2_with fail
    refine (K3.out _).mono ?_
    rintro e w3 ⟨rfl, hb3⟩
    obtain ⟨hc3, hf3, hz3⟩ := bcell hb3
    try simp at hz3
    have zb3 : w.heap.size ≤ w3.heap.size := by omega
    try (have z3_0 : w.heap.size < w3.heap.size := by omega)
    try (have z3_1 : w.heap.size + 1 < w3.heap.size := by omega)
    try (have z3_2 : w.heap.size + 1 + 1 < w3.heap.size := by omega)
    try (have z3_3 : w.heap.size + 1 + 1 + 1 < w3.heap.size := by omega)
    have b3 : Below w.heap.size w w3 := Below.trans (by (repeat (first | (with_reducible refine Below.drewN ?_) | (with_reducible refine Below.drew ?_) | ((with_reducible refine Below.alloc ?_ ?_ _); rotate_left; (first | omega | (simp <;> omega))) | ((with_reducible refine Below.setCell ?_ ?_ _); rotate_left; (first | omega | (simp <;> omega))) | (with_reducible exact Below.refl _ _) | (with_reducible assumption)))) (hb3.mono (by first | omega | (simp <;> omega)))
    go_wp2
    go_ret
    exact ⟨rfl, by (repeat (first | (with_reducible refine Below.drewN ?_) | (with_reducible refine Below.drew ?_) | ((with_reducible refine Below.alloc ?_ ?_ _); rotate_left; (first | omega | (simp <;> omega))) | ((with_reducible refine Below.setCell ?_ ?_ _); rotate_left; (first | omega | (simp <;> omega))) | (with_reducible exact Below.refl _ _) | (with_reducible assumption)))⟩

  rw [h3] at K3
  rcases (Bool.eq_false_or_eq_true (sameF k2 [f2_0, f2_1, f2_2] [f2_3, f2_4] y_k2 [y_f2_0, y_f2_1, y_f2_2] [y_f2_3, y_f2_4])).symm with h4 | h4
  · rw [h4] at K4
    have e : ((((((sameR n1 i1 xs1 y_n1 y_i1 y_xs1) && (sameR n2 i2 xs2 y_n2 y_i2 y_xs2)) && (sameF k1 [f1_0, f1_1, f1_2] [f1_3, f1_4] y_k1 [y_f1_0, y_f1_1, y_f1_2] [y_f1_3, y_f1_4])) && (sameF k2 [f2_0, f2_1, f2_2] [f2_3, f2_4] y_k2 [y_f2_0, y_f2_1, y_f2_2] [y_f2_3, y_f2_4])) && (sameB x1 y_x1)) && (sameB x2 y_x2)) = false := by rw [h1, h2, h3, h4]; simp
    rw [e]
    clear e h1 h2 h3 h4
    go_enter Try.func28, Try.ntmps28
    go_wp2_with fail
    refine (K1.out _ (by (repeat (first | (with_reducible refine Below.drewN ?_) | (with_reducible refine Below.drew ?_) | ((with_reducible refine Below.alloc ?_ ?_ _); rotate_left; (first | omega | (simp <;> omega))) | ((with_reducible refine Below.setCell ?_ ?_ _); rotate_left; (first | omega | (simp <;> omega))) | (with_reducible exact Below.refl _ _) | (with_reducible assumption))))).mono ?_
    rintro e w1 ⟨rfl, hb1⟩
    obtain ⟨hc1, hf1, hz1⟩ := bcell hb1
    try simp at hz1
    have zb1 : w.heap.size ≤ w1.heap.size := by omega
    try (have z1_0 : w.heap.size < w1.heap.size := by omega)
    try (have z1_1 : w.heap.size + 1 < w1.heap.size := by omega)
    try (have z1_2 : w.heap.size + 1 + 1 < w1.heap.size := by omega)
    try (have z1_3 : w.heap.size + 1 + 1 + 1 < w1.heap.size := by omega)
    have b1 : Below w.heap.size w w1 := Below.trans (by (repeat (first | (with_reducible refine Below.drewN ?_) | (with_reducible refine Below.drew ?_) | ((with_reducible refine Below.alloc ?_ ?_ _); rotate_left; (first | omega | (simp <;> omega))) | ((with_reducible refine Below.setCell ?_ ?_ _); rotate_left; (first | omega | (simp <;> omega))) | (with_reducible exact Below.refl _ _) | (with_reducible assumption)))) (hb1.mono (by first | omega | (simp <;> omega)))
    go_wp2_with fail
    refine (K2.out _ (by (repeat (first | (with_reducible refine Below.drewN ?_) | (with_reducible refine Below.drew ?_) | ((with_reducible refine Below.alloc ?_ ?_ _); rotate_left; (first | omega | (simp <;> omega))) | ((with_reducible refine Below.setCell ?_ ?_ _); rotate_left; (first | omega | (simp <;> omega))) | (with_reducible exact Below.refl _ _) | (with_reducible assumption))))).mono ?_
    rintro e w2 ⟨rfl, hb2⟩
    obtain ⟨hc2, hf2, hz2⟩ := bcell hb2
    try simp at hz2
    have zb2 : w.heap.size ≤ w2.heap.size := by omega
    try (have z2_0 : w.heap.size < w2.heap.size := by omega)
    try (have z2_1 : w.heap.size + 1 < w2.heap.size := by omega)
    try (have z2_2 : w.heap.size + 1 + 1 < w2.heap.size := by omega)
    try (have z2_3 : w.heap.size + 1 + 1 + 1 < w2.heap.size := by omega)
    have b2 : Below w.heap.size w w2 := Below.trans (by (repeat (first | (with_reducible refine Below.drewN ?_) | (with_reducible refine Below.drew ?_) | ((with_reducible refine Below.alloc ?_ ?_ _); rotate_left; (first | omega | (simp <;> omega))) | ((with_reducible refine Below.setCell ?_ ?_ _); rotate_left; (first | omega | (simp <;> omega))) | (with_reducible exact Below.refl _ _) | (with_reducible assumption)))) (hb2.mono (by first | omega | (simp <;> omega)))
    go_wp2_with fail
    refine (K3.out _).mono ?_
    rintro e w3 ⟨rfl, hb3⟩
    obtain ⟨hc3, hf3, hz3⟩ := bcell hb3
    try simp at hz3
    have zb3 : w.heap.size ≤ w3.heap.size := by omega
    try (have z3_0 : w.heap.size < w3.heap.size := by omega)
    try (have z3_1 : w.heap.size + 1 < w3.heap.size := by omega)
    try (have z3_2 : w.heap.size + 1 + 1 < w3.heap.size := by omega)
    try (have z3_3 : w.heap.size + 1 + 1 + 1 < w3.heap.size := by omega)
    have b3 : Below w.heap.size w w3 := Below.trans (by (repeat (first | (with_reducible refine Below.drewN ?_) | (with_reducible refine Below.drew ?_) | ((with_reducible refine Below.alloc ?_ ?_ _); rotate_left; (first | omega | (simp <;> omega))) | ((with_reducible refine Below.setCell ?_ ?_ _); rotate_left; (first | omega | (simp <;> omega))) | (with_reducible exact Below.refl _ _) | (with_reducible assumption)))) (hb3.mono (by first | omega | (simp <;> omega)))
    go_wp2_with fail
    refine (K4.out _).mono ?_
    rintro e w4 ⟨rfl, hb4⟩
    obtain ⟨hc4, hf4, hz4⟩ := bcell hb4
    try simp at hz4
    have zb4 : w.heap.size ≤ w4.heap.size := by omega
    try (have z4_0 : w.heap.size < w4.heap.size := by omega)
    try (have z4_1 : w.heap.size + 1 < w4.heap.size := by omega)
    try (have z4_2 : w.heap.size + 1 + 1 < w4.heap.size := by omega)
    try (have z4_3 : w.heap.size + 1 + 1 + 1 < w4.heap.size := by omega)
    have b4 : Below w.heap.size w w4 := Below.trans (by (repeat (first | (with_reducible refine Below.drewN ?_) | (with_reducible refine Below.drew ?_) | ((with_reducible refine Below.alloc ?_ ?_ _); rotate_left; (first | omega | (simp <;> omega))) | ((with_reducible refine Below.setCell ?_ ?_ _); rotate_left; (first | omega | (simp <;> omega))) | (with_reducible exact Below.refl _ _) | (with_reducible assumption)))) (hb4.mono (by first | omega | (simp <;> omega)))
    go_wp2
    go_ret
    exact ⟨rfl, by (repeat (first | (with_reducible refine Below.drewN ?_) | (with_reducible refine Below.drew ?_) | ((with_reducible refine Below.alloc ?_ ?_ _); rotate_left; (first | omega | (simp <;> omega))) | ((with_reducible refine Below.setCell ?_ ?_ _); rotate_left; (first | omega | (simp <;> omega))) | (with_reducible exact Below.refl _ _) | (with_reducible assumption)))⟩

  rw [h4] at K4
  rcases (Bool.eq_false_or_eq_true (sameB x1 y_x1)).symm with h5 | h5
  · rw [h5] at K5
    have e : ((((((sameR n1 i1 xs1 y_n1 y_i1 y_xs1) && (sameR n2 i2 xs2 y_n2 y_i2 y_xs2)) && (sameF k1 [f1_0, f1_1, f1_2] [f1_3, f1_4] y_k1 [y_f1_0, y_f1_1, y_f1_2] [y_f1_3, y_f1_4])) && (sameF k2 [f2_0, f2_1, f2_2] [f2_3, f2_4] y_k2 [y_f2_0, y_f2_1, y_f2_2] [y_f2_3, y_f2_4])) && (sameB x1 y_x1)) && (sameB x2 y_x2)) = false := by rw [h1, h2, h3, h4, h5]; simp
    rw [e]
    clear e h1 h2 h3 h4 h5
    go_enter Try.func28, Try.ntmps28
    go_wp2_with fail
    refine (K1.out _ (by (repeat (first | (with_reducible refine Below.drewN ?_) | (with_reducible refine Below.drew ?_) | ((with_reducible refine Below.alloc ?_ ?_ _); rotate_left; (first | omega | (simp <;> omega))) | ((with_reducible refine Below.setCell ?_ ?_ _); rotate_left; (first | omega | (simp <;> omega))) | (with_reducible exact Below.refl _ _) | (with_reducible assumption))))).mono ?_
    rintro e w1 ⟨rfl, hb1⟩
    obtain ⟨hc1, hf1, hz1⟩ := bcell hb1
    try simp at hz1
    have zb1 : w.heap.size ≤ w1.heap.size := by omega
    try (have z1_0 : w.heap.size < w1.heap.size := by omega)
    try (have z1_1 : w.heap.size + 1 < w1.heap.size := by omega)
    try (have z1_2 : w.heap.size + 1 + 1 < w1.heap.size := by omega)
    try (have z1_3 : w.heap.size + 1 + 1 + 1 < w1.heap.size := by omega)
    have b1 : Below w.heap.size w w1 := Below.trans (by (repeat (first | (with_reducible refine Below.drewN ?_) | (with_reducible refine Below.drew ?_) | ((with_reducible refine Below.alloc ?_ ?_ _); rotate_left; (first | omega | (simp <;> omega))) | ((with_reducible refine Below.setCell ?_ ?_ _); rotate_left; (first | omega | (simp <;> omega))) | (with_reducible exact Below.refl _ _) | (with_reducible assumption)))) (hb1.mono (by first | omega | (simp <;> omega)))
    go_wp2_with fail
    refine (K2.out _ (by (repeat (first | (with_reducible refine Below.drewN ?_) | (with_reducible refine Below.drew ?_) | ((with_reducible refine Below.alloc ?_ ?_ _); rotate_left; (first | omega | (simp <;> omega))) | ((with_reducible refine Below.setCell ?_ ?_ _); rotate_left; (first | omega | (simp <;> omega))) | (with_reducible exact Below.refl _ _) | (with_reducible assumption))))).mono ?_
    rintro e w2 ⟨rfl, hb2⟩
    obtain ⟨hc2, hf2, hz2⟩ := bcell hb2
    try simp at hz2
    have zb2 : w.heap.size ≤ w2.heap.size := by omega
    try (have z2_0 : w.heap.size < w2.heap.size := by omega)
    try (have z2_1 : w.heap.size + 1 < w2.heap.size := by omega)
    try (have z2_2 : w.heap.size + 1 + 1 < w2.heap.size := by omega)
    try (have z2_3 : w.heap.size + 1 + 1 + 1 < w2.heap.size := by omega)
    have b2 : Below w.heap.size w w2 := Below.trans (by (repeat (first | (with_reducible refine Below.drewN ?_) | (with_reducible refine Below.drew ?_) | ((with_reducible refine Below.alloc ?_ ?_ _); rotate_left; (first | omega | (simp <;> omega))) | ((with_reducible refine Below.setCell ?_ ?_ _); rotate_left; (first | omega | (simp <;> omega))) | (with_reducible exact Below.refl _ _) | (with_reducible assumption)))) (hb2.mono (by first | omega | (simp <;> omega)))
    go_wp2_with fail
    refine (K3.out _).mono ?_
    rintro e w3 ⟨rfl, hb3⟩
    obtain ⟨hc3, hf3, hz3⟩ := bcell hb3
    try simp at hz3
    have zb3 : w.heap.size ≤ w3.heap.size := by omega
    try (have z3_0 : w.heap.size < w3.heap.size := by omega)
    try (have z3_1 : w.heap.size + 1 < w3.heap.size := by omega)
    try (have z3_2 : w.heap.size + 1 + 1 < w3.heap.size := by omega)
    try (have z3_3 : w.heap.size + 1 + 1 + 1 < w3.heap.size := by omega)
    have b3 : Below w.heap.size w w3 := Below.trans (by (repeat (first | (with_reducible refine Below.drewN ?_) | (with_reducible refine Below.drew ?_) | ((with_reducible refine Below.alloc ?_ ?_ _); rotate_left; (first | omega | (simp <;> omega))) | ((with_reducible refine Below.setCell ?_ ?_ _); rotate_left; (first | omega | (simp <;> omega))) | (with_reducible exact Below.refl _ _) | (with_reducible assumption)))) (hb3.mono (by first | omega | (simp <;> omega)))
    go_wp2_with fail
    refine (K4.out _).mono ?_
    rintro e w4 ⟨rfl, hb4⟩
    obtain ⟨hc4, hf4, hz4⟩ := bcell hb4
    try simp at hz4
    have zb4 : w.heap.size ≤ w4.heap.size := by omega
    try (have z4_0 : w.heap.size < w4.heap.size := by omega)
    try (have z4_1 : w.heap.size + 1 < w4.heap.size := by omega)
    try (have z4_2 : w.heap.size + 1 + 1 < w4.heap.size := by omega)
    try (have z4_3 : w.heap.size + 1 + 1 + 1 < w4.heap.size := by omega)
    have b4 : Below w.heap.size w w4 := Below.trans (by (repeat (first | (with_reducible refine Below.drewN ?_) | (with_reducible refine Below.drew ?_) | ((with_reducible refine Below.alloc ?_ ?_ _); rotate_left; (first | omega | (simp <;> omega))) | ((with_reducible refine Below.setCell ?_ ?_ _); rotate_left; (first | omega | (simp <;> omega))) | (with_reducible exact Below.refl _ _) | (with_reducible assumption)))) (hb4.mono (by first | omega | (simp <;> omega)))
    go_wp2_with fail
    refine (K5.out _).mono ?_
    rintro e w' ⟨rfl, dq5, rfl⟩
    go_wp2
    go_ret
    exact ⟨rfl, by (repeat (first | (with_reducible refine Below.drewN ?_) | (with_reducible refine Below.drew ?_) | ((with_reducible refine Below.alloc ?_ ?_ _); rotate_left; (first | omega | (simp <;> omega))) | ((with_reducible refine Below.setCell ?_ ?_ _); rotate_left; (first | omega | (simp <;> omega))) | (with_reducible exact Below.refl _ _) | (with_reducible assumption)))⟩

  rw [h5] at K5
  have e : ((((((sameR n1 i1 xs1 y_n1 y_i1 y_xs1) && (sameR n2 i2 xs2 y_n2 y_i2 y_xs2)) && (sameF k1 [f1_0, f1_1, f1_2] [f1_3, f1_4] y_k1 [y_f1_0, y_f1_1, y_f1_2] [y_f1_3, y_f1_4])) && (sameF k2 [f2_0, f2_1, f2_2] [f2_3, f2_4] y_k2 [y_f2_0, y_f2_1, y_f2_2] [y_f2_3, y_f2_4])) && (sameB x1 y_x1)) && (sameB x2 y_x2)) = (sameB x2 y_x2) := by rw [h1, h2, h3, h4, h5]; simp
  rw [e]
  clear e h1 h2 h3 h4 h5
  go_enter Try.func28, Try.ntmps28
  go_wp2_with fail
  refine (K1.out _ (by (repeat (first | (with_reducible refine Below.drewN ?_) | (with_reducible refine Below.drew ?_) | ((with_reducible refine Below.alloc ?_ ?_ _); rotate_left; (first | omega | (simp <;> omega))) | ((with_reducible refine Below.setCell ?_ ?_ _); rotate_left; (first | omega | (simp <;> omega))) | (with_reducible exact Below.refl _ _) | (with_reducible assumption))))).mono ?_
  rintro e w1 ⟨rfl, hb1⟩
  obtain ⟨hc1, hf1, hz1⟩ := bcell hb1
  try simp at hz1
  have zb1 : w.heap.size ≤ w1.heap.size := by omega
  try (have z1_0 : w.heap.size < w1.heap.size := by omega)
  try (have z1_1 : w.heap.size + 1 < w1.heap.size := by omega)
  try (have z1_2 : w.heap.size + 1 + 1 < w1.heap.size := by omega)
  try (have z1_3 : w.heap.size + 1 + 1 + 1 < w1.heap.size := by omega)
  have b1 : Below w.heap.size w w1 := Below.trans (by (repeat (first | (with_reducible refine Below.drewN ?_) | (with_reducible refine Below.drew ?_) | ((with_reducible refine Below.alloc ?_ ?_ _); rotate_left; (first | omega | (simp <;> omega))) | ((with_reducible refine Below.setCell ?_ ?_ _); rotate_left; (first | omega | (simp <;> omega))) | (with_reducible exact Below.refl _ _) | (with_reducible assumption)))) (hb1.mono (by first | omega | (simp <;> omega)))
  go_wp2_with fail
  refine (K2.out _ (by (repeat (first | (with_reducible refine Below.drewN ?_) | (with_reducible refine Below.drew ?_) | ((with_reducible refine Below.alloc ?_ ?_ _); rotate_left; (first | omega | (simp <;> omega))) | ((with_reducible refine Below.setCell ?_ ?_ _); rotate_left; (first | omega | (simp <;> omega))) | (with_reducible exact Below.refl _ _) | (with_reducible assumption))))).mono ?_
  rintro e w2 ⟨rfl, hb2⟩
  obtain ⟨hc2, hf2, hz2⟩ := bcell hb2
  try simp at hz2
  have zb2 : w.heap.size ≤ w2.heap.size := by omega
  try (have z2_0 : w.heap.size < w2.heap.size := by omega)
  try (have z2_1 : w.heap.size + 1 < w2.heap.size := by omega)
  try (have z2_2 : w.heap.size + 1 + 1 < w2.heap.size := by omega)
  try (have z2_3 : w.heap.size + 1 + 1 + 1 < w2.heap.size := by omega)
  have b2 : Below w.heap.size w w2 := Below.trans (by (repeat (first | (with_reducible refine Below.drewN ?_) | (with_reducible refine Below.drew ?_) | ((with_reducible refine Below.alloc ?_ ?_ _); rotate_left; (first | omega | (simp <;> omega))) | ((with_reducible refine Below.setCell ?_ ?_ _); rotate_left; (first | omega | (simp <;> omega))) | (with_reducible exact Below.refl _ _) | (with_reducible assumption)))) (hb2.mono (by first | omega | (simp <;> omega)))
  go_wp2_with fail
  refine (K3.out _).mono ?_
  rintro e w3 ⟨rfl, hb3⟩
  obtain ⟨hc3, hf3, hz3⟩ := bcell hb3
  try simp at hz3
  have zb3 : w.heap.size ≤ w3.heap.size := by omega
  try (have z3_0 : w.heap.size < w3.heap.size := by omega)
  try (have z3_1 : w.heap.size + 1 < w3.heap.size := by omega)
  try (have z3_2 : w.heap.size + 1 + 1 < w3.heap.size := by omega)
  try (have z3_3 : w.heap.size + 1 + 1 + 1 < w3.heap.size := by omega)
  have b3 : Below w.heap.size w w3 := Below.trans (by (repeat (first | (with_reducible refine Below.drewN ?_) | (with_reducible refine Below.drew ?_) | ((with_reducible refine Below.alloc ?_ ?_ _); rotate_left; (first | omega | (simp <;> omega))) | ((with_reducible refine Below.setCell ?_ ?_ _); rotate_left; (first | omega | (simp <;> omega))) | (with_reducible exact Below.refl _ _) | (with_reducible assumption)))) (hb3.mono (by first | omega | (simp <;> omega)))
  go_wp2_with fail
  refine (K4.out _).mono ?_
  rintro e w4 ⟨rfl, hb4⟩
  obtain ⟨hc4, hf4, hz4⟩ := bcell hb4
  try simp at hz4
  have zb4 : w.heap.size ≤ w4.heap.size := by omega
  try (have z4_0 : w.heap.size < w4.heap.size := by omega)
  try (have z4_1 : w.heap.size + 1 < w4.heap.size := by omega)
  try (have z4_2 : w.heap.size + 1 + 1 < w4.heap.size := by omega)
  try (have z4_3 : w.heap.size + 1 + 1 + 1 < w4.heap.size := by omega)
  have b4 : Below w.heap.size w w4 := Below.trans (by (repeat (first | (with_reducible refine Below.drewN ?_) | (with_reducible refine Below.drew ?_) | ((with_reducible refine Below.alloc ?_ ?_ _); rotate_left; (first | omega | (simp <;> omega))) | ((with_reducible refine Below.setCell ?_ ?_ _); rotate_left; (first | omega | (simp <;> omega))) | (with_reducible exact Below.refl _ _) | (with_reducible assumption)))) (hb4.mono (by first | omega | (simp <;> omega)))
  go_wp2_with fail
  refine (K5.out _).mono ?_
  rintro e w' ⟨rfl, dq5, rfl⟩
  go_wp2_with fail
  refine (K6.out _).mono ?_
  rintro e w' ⟨rfl, dq6, rfl⟩
  go_wp2
  go_ret
  exact ⟨rfl, by (repeat (first | (with_reducible refine Below.drewN ?_) | (with_reducible refine Below.drew ?_) | ((with_reducible refine Below.alloc ?_ ?_ _); rotate_left; (first | omega | (simp <;> omega))) | ((with_reducible refine Below.setCell ?_ ?_ _); rotate_left; (first | omega | (simp <;> omega))) | (with_reducible exact Below.refl _ _) | (with_reducible assumption)))⟩



end Go.Proofs.Ytbkafmikaojclaa
