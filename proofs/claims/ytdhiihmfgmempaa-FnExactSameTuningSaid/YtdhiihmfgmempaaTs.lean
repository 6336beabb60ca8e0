
/-
Contracts of the tests whether tunings are the same; the law.
-/
import Derived.Test.YtdhiihmfgmempaaTu
import Derived.Test.YtdhiihmfgmempaaGt
import Derived.Test.YtdhiihmfgmempaaLw
import Derived.Test.YtdhiihmfgmempaaLd
namespace Go.Proofs.Ytdhiihmfgmempaa
open Go Go.RowKit Fl
set_option maxHeartbeats 1000000 in
theorem c_SameTuning (x1 : Nat) (x2 : Nat) (a1 : Option Addr) (n1 c1 : Nat) (xs1 : List Nat) (y_x1 : Nat) (y_x2 : Nat) (y_a1 : Option Addr) (y_n1 y_c1 : Nat) (y_xs1 : List Nat) (w : World) (h_1 : FS w a1 n1 c1 xs1) (y_h_1 : FS w y_a1 y_n1 y_c1 y_xs1) :
    Calls Try.prog 31 #[.agg #[.float .f32 x1, .float .f32 x2, .slice a1 n1 c1], .agg #[.float .f32 y_x1, .float .f32 y_x2, .slice y_a1 y_n1 y_c1]] w (RetV (.bool (((sameB x1 y_x1) && (sameB x2 y_x2)) && (sameL n1 y_n1 xs1 y_xs1))) w) := by
  have K1 : Hid (∀ W, Calls Try.prog 47 #[.float .f32 x1, .float .f32 y_x1] W (RetB (sameB x1 y_x1) W)) := fun W => c_SameSample _ _ W
  have K2 : Hid (∀ W, Calls Try.prog 47 #[.float .f32 x2, .float .f32 y_x2] W (RetB (sameB x2 y_x2) W)) := fun W => c_SameSample _ _ W
  have K3 : Hid (∀ W, Below w.heap.size w W → Calls Try.prog 83 #[.slice a1 n1 c1, .slice y_a1 y_n1 y_c1] W (RetB (sameL n1 y_n1 xs1 y_xs1) W)) := fun W hb => c_sameSamples _ _ _ _ _ _ _ _ W (h_1.below hb (Nat.le_refl _)) (y_h_1.below hb (Nat.le_refl _))
  clear h_1 y_h_1
  rcases (Bool.eq_false_or_eq_true (sameB x1 y_x1)).symm with h1 | h1
  · rw [h1] at K1
    have e : (((sameB x1 y_x1) && (sameB x2 y_x2)) && (sameL n1 y_n1 xs1 y_xs1)) = false := by rw [h1]; simp
    rw [e]
    clear e h1
    go_enter Try.func31, Try.ntmps31
    go_wp2_with fail
    refine (K1.out _).mono ?_
    rintro e w' ⟨rfl, dq1, rfl⟩
    go_wp2
    go_ret
    exact ⟨rfl, by (repeat (first | (with_reducible refine Below.drewN ?_) | (with_reducible refine Below.drew ?_) | ((with_reducible refine Below.alloc ?_ ?_ _); rotate_left; (first | omega | (simp <;> omega))) | ((with_reducible refine Below.setCell ?_ ?_ _); rotate_left; (first | omega | (simp <;> omega))) | (with_reducible exact Below.refl _ _) | (with_reducible assumption)))⟩

  rw [h1] at K1
  rcases (Bool.eq_false_or_eq_true (sameB x2 y_x2)).symm with h2 | h2
  · rw [h2] at K2
    have e : (((sameB x1 y_x1) && (sameB x2 y_x2)) && (sameL n1 y_n1 xs1 y_xs1)) = false := by rw [h1, h2]; simp
    rw [e]
    clear e h1 h2
    go_enter Try.func31, Try.ntmps31
    go_wp2_with fail
    refine (K1.out _).mono ?_
    rintro e w' ⟨rfl, dq1, rfl⟩
    go_wp2_with fail
    refine (K2.out _).mono ?_
    rintro e w' ⟨rfl, dq2, rfl⟩
    go_wp2
    go_ret
    exact ⟨rfl, by (repeat (first | (with_reducible refine Below.drewN ?_) | (with_reducible refine Below.drew ?_) | ((with_reducible refine Below.alloc ?_ ?_ _); rotate_left; (first | omega | (simp <;> omega))) | ((with_reducible refine Below.setCell ?_ ?_ _); rotate_left; (first | omega | (simp <;> omega))) | (with_reducible exact Below.refl _ _) | (with_reducible assumption)))⟩

  rw [h2] at K2
  have e : (((sameB x1 y_x1) && (sameB x2 y_x2)) && (sameL n1 y_n1 xs1 y_xs1)) = (sameL n1 y_n1 xs1 y_xs1) := by rw [h1, h2]; simp
  rw [e]
  clear e h1 h2
  go_enter Try.func31, Try.ntmps31
  go_wp2_with fail
  refine (K1.out _).mono ?_
  rintro e w' ⟨rfl, dq1, rfl⟩
  go_wp2_with fail
  refine (K2.out _).mono ?_
  rintro e w' ⟨rfl, dq2, rfl⟩
  go_wp2_with fail
  refine (K3.out _ (by (repeat (first | (with_reducible refine Below.drewN ?_) | (with_reducible refine Below.drew ?_) | ((with_reducible refine Below.alloc ?_ ?_ _); rotate_left; (first | omega | (simp <;> omega))) | ((with_reducible refine Below.setCell ?_ ?_ _); rotate_left; (first | omega | (simp <;> omega))) | (with_reducible exact Below.refl _ _) | (with_reducible assumption))))).mono ?_
  rintro e w' ⟨rfl, dq3, rfl⟩
  go_wp2
  go_ret
  exact ⟨rfl, by (repeat (first | (with_reducible refine Below.drewN ?_) | (with_reducible refine Below.drew ?_) | ((with_reducible refine Below.alloc ?_ ?_ _); rotate_left; (first | omega | (simp <;> omega))) | ((with_reducible refine Below.setCell ?_ ?_ _); rotate_left; (first | omega | (simp <;> omega))) | (with_reducible exact Below.refl _ _) | (with_reducible assumption)))⟩

set_option maxHeartbeats 1000000 in
theorem c_sSameTuning (x1 : Nat) (x2 : Nat) (a1 : Option Addr) (n1 c1 : Nat) (xs1 : List Nat) (y_x1 : Nat) (y_x2 : Nat) (y_a1 : Option Addr) (y_n1 y_c1 : Nat) (y_xs1 : List Nat) (w : World) (h_1 : FS w a1 n1 c1 xs1) (y_h_1 : FS w y_a1 y_n1 y_c1 y_xs1) :
    Calls Try.prog 30 #[.agg #[.float .f32 x1, .float .f32 x2, .slice a1 n1 c1], .agg #[.float .f32 y_x1, .float .f32 y_x2, .slice y_a1 y_n1 y_c1]] w (RetV (.bool (((sameB x1 y_x1) && (sameB x2 y_x2)) && (sameL n1 y_n1 xs1 y_xs1))) w) := by
  have K1 : Hid (∀ W, Calls Try.prog 81 #[.float .f32 x1, .float .f32 y_x1] W (RetB (sameB x1 y_x1) W)) := fun W => c_l01Same _ _ W
  have K2 : Hid (∀ W, Calls Try.prog 81 #[.float .f32 x2, .float .f32 y_x2] W (RetB (sameB x2 y_x2) W)) := fun W => c_l01Same _ _ W
  have K3 : Hid (∀ W, Below w.heap.size w W → Calls Try.prog 82 #[.slice a1 n1 c1, .slice y_a1 y_n1 y_c1] W (RetB (sameL n1 y_n1 xs1 y_xs1) W)) := fun W hb => c_l02SameList _ _ _ _ _ _ _ _ W (h_1.below hb (Nat.le_refl _)) (y_h_1.below hb (Nat.le_refl _))
  clear h_1 y_h_1
  rcases (Bool.eq_false_or_eq_true (sameB x1 y_x1)).symm with h1 | h1
  · rw [h1] at K1
    have e : (((sameB x1 y_x1) && (sameB x2 y_x2)) && (sameL n1 y_n1 xs1 y_xs1)) = false := by rw [h1]; simp
    rw [e]
    clear e h1
    go_enter Try.func30, Try.ntmps30
    go_wp2_with fail
    refine (K1.out _).mono ?_
    rintro e w' ⟨rfl, dq1, rfl⟩
    go_wp2
    go_ret
    exact ⟨rfl, by (repeat (first | (with_reducible refine Below.drewN ?_) | (with_reducible refine Below.drew ?_) | ((with_reducible refine Below.alloc ?_ ?_ _); rotate_left; (first | omega | (simp <;> omega))) | ((with_reducible refine Below.setCell ?_ ?_ _); rotate_left; (first | omega | (simp <;> omega))) | (with_reducible exact Below.refl _ _) | (with_reducible assumption)))⟩

  rw [h1] at K1
  rcases (Bool.eq_false_or_eq_true (sameB x2 y_x2)).symm with h2 | h2
  · rw [h2] at K2
    have e : (((sameB x1 y_x1) && (sameB x2 y_x2)) && (sameL n1 y_n1 xs1 y_xs1)) = false := by rw [h1, h2]; simp
    rw [e]
    clear e h1 h2
    go_enter Try.func30, Try.ntmps30
    go_wp2_with fail
    refine (K1.out _).mono ?_
    rintro e w' ⟨rfl, dq1, rfl⟩
    go_wp2_with fail
    refine (K2.out _).mono ?_
    rintro e w' ⟨rfl, dq2, rfl⟩
    go_wp2
    go_ret
    exact ⟨rfl, by (repeat (first | (with_reducible refine Below.drewN ?_) | (with_reducible refine Below.drew ?_) | ((with_reducible refine Below.alloc ?_ ?_ _); rotate_left; (first | omega | (simp <;> omega))) | ((with_reducible refine Below.setCell ?_ ?_ _); rotate_left; (first | omega | (simp <;> omega))) | (with_reducible exact Below.refl _ _) | (with_reducible assumption)))⟩

  rw [h2] at K2
  have e : (((sameB x1 y_x1) && (sameB x2 y_x2)) && (sameL n1 y_n1 xs1 y_xs1)) = (sameL n1 y_n1 xs1 y_xs1) := by rw [h1, h2]; simp
  rw [e]
  clear e h1 h2
  go_enter Try.func30, Try.ntmps30
  go_wp2_with fail
  refine (K1.out _).mono ?_
  rintro e w' ⟨rfl, dq1, rfl⟩
  go_wp2_with fail
  refine (K2.out _).mono ?_
  rintro e w' ⟨rfl, dq2, rfl⟩
  go_wp2_with fail
  refine (K3.out _ (by (repeat (first | (with_reducible refine Below.drewN ?_) | (with_reducible refine Below.drew ?_) | ((with_reducible refine Below.alloc ?_ ?_ _); rotate_left; (first | omega | (simp <;> omega))) | ((with_reducible refine Below.setCell ?_ ?_ _); rotate_left; (first | omega | (simp <;> omega))) | (with_reducible exact Below.refl _ _) | (with_reducible assumption))))).mono ?_
  rintro e w' ⟨rfl, dq3, rfl⟩
  go_wp2
  go_ret
  exact ⟨rfl, by (repeat (first | (with_reducible refine Below.drewN ?_) | (with_reducible refine Below.drew ?_) | ((with_reducible refine Below.alloc ?_ ?_ _); rotate_left; (first | omega | (simp <;> omega))) | ((with_reducible refine Below.setCell ?_ ?_ _); rotate_left; (first | omega | (simp <;> omega))) | (with_reducible exact Below.refl _ _) | (with_reducible assumption)))⟩



set_option maxRecDepth 100000 in
set_option maxHeartbeats 1000000 in
theorem l_SameTuning (x1 : Nat) (x2 : Nat) (a1 : Option Addr) (n1 c1 : Nat) (xs1 : List Nat) (y_x1 : Nat) (y_x2 : Nat) (y_a1 : Option Addr) (y_n1 y_c1 : Nat) (y_xs1 : List Nat) (v : Bool) (w : World) (h_1 : FS w a1 n1 c1 xs1) (y_h_1 : FS w y_a1 y_n1 y_c1 y_xs1)
    (HS : ∀ W (d1 y_d1 : Option Addr) (e1 y_e1 : Nat), FS W d1 n1 e1 xs1 → FS W y_d1 y_n1 y_e1 y_xs1 → Calls Try.prog 30 #[.agg #[.float .f32 x1, .float .f32 x2, .slice d1 n1 e1], .agg #[.float .f32 y_x1, .float .f32 y_x2, .slice y_d1 y_n1 y_e1]] W (RetV (.bool v) W))
    (HI : ∀ W (d1 y_d1 : Option Addr) (e1 y_e1 : Nat), FS W d1 n1 e1 xs1 → FS W y_d1 y_n1 y_e1 y_xs1 → Calls Try.prog 31 #[.agg #[.float .f32 x1, .float .f32 x2, .slice d1 n1 e1], .agg #[.float .f32 y_x1, .float .f32 y_x2, .slice y_d1 y_n1 y_e1]] W (RetV (.bool v) W)) :
    Calls Try.prog 6 #[.agg #[.float .f32 x1, .float .f32 x2, .slice a1 n1 c1], .agg #[.float .f32 y_x1, .float .f32 y_x2, .slice y_a1 y_n1 y_c1]] w (RetV (.bool true) w) := by
  have HS := Lib.hid HS
  have HI := Lib.hid HI
  have Y1 : w.heap.size < w.heap.size + 1 + 1 := by omega
  have M1 : n1 ≤ 9223372036854775807 := Nat.le_trans h_1.cap h_1.big
  have H1 := Lib.hid h_1
  clear h_1
  have y_M1 : y_n1 ≤ 9223372036854775807 := Nat.le_trans y_h_1.cap y_h_1.big
  have y_H1 := Lib.hid y_h_1
  clear y_h_1
  by_cases ht : (n1 : Int) ≤ 1048576
  rotate_left
  · go_enter Try.func6, Try.ntmps6
    go_wp2_with fail
    refine (c_szTuning_no _ _ _ _ _ (1048576) _ (by omega) (by omega) M1 (by omega)).mono ?_
    rintro e w1 ⟨rfl, hb1⟩
    obtain ⟨hc1, hf1, hz1⟩ := bcell hb1
    have hk1 := bblk hb1
    have Z1 : w.heap.size ≤ w1.heap.size := by first | exact hz1 | (simp at hz1; omega) | omega
    try (have ZS1 : w.heap.size < w1.heap.size := by first | omega | (simp at hz1; omega))
    try (have Xw_1 : w.heap.size < w1.heap.size := by first | omega | (simp at hz1; omega))
    try (have XXw_1 : w.heap.size < w1.heap.size + 1 := by omega)
    try (have Xwp_1 : w.heap.size + 1 < w1.heap.size := by first | omega | (simp at hz1; omega))
    try (have XXwp_1 : w.heap.size + 1 < w1.heap.size + 1 := by omega)
    have b1 : Below w.heap.size w w1 := Below.trans (by (repeat (first | (with_reducible refine Below.drewN ?_) | (with_reducible refine Below.drew ?_) | ((with_reducible refine Below.alloc ?_ ?_ _); rotate_left; (first | omega | (simp <;> omega))) | ((with_reducible refine Below.setCell ?_ ?_ _); rotate_left; (first | omega | (simp <;> omega))) | (with_reducible exact Below.refl _ _) | (with_reducible assumption)))) (hb1.mono (by first | omega | (simp <;> omega)))
    go_wp2
    go_ret
    exact ⟨rfl, by (repeat (first | (with_reducible refine Below.drewN ?_) | (with_reducible refine Below.drew ?_) | ((with_reducible refine Below.alloc ?_ ?_ _); rotate_left; (first | omega | (simp <;> omega))) | ((with_reducible refine Below.setCell ?_ ?_ _); rotate_left; (first | omega | (simp <;> omega))) | (with_reducible exact Below.refl _ _) | (with_reducible assumption)))⟩
  have hl : ¬ (1048576 - n1 : Int) < 0 := by omega
  by_cases ht2 : (y_n1 : Int) ≤ 1048576 - n1
  rotate_left
  · go_enter Try.func6, Try.ntmps6
    go_wp2_with fail
    refine (c_szTuning_ok _ _ _ _ _ (1048576) _ (by omega) (by omega) M1 (by omega)).mono ?_
    rintro e w1 ⟨rfl, hb1⟩
    obtain ⟨hc1, hf1, hz1⟩ := bcell hb1
    have hk1 := bblk hb1
    have Z1 : w.heap.size ≤ w1.heap.size := by first | exact hz1 | (simp at hz1; omega) | omega
    try (have ZS1 : w.heap.size < w1.heap.size := by first | omega | (simp at hz1; omega))
    try (have Xw_1 : w.heap.size < w1.heap.size := by first | omega | (simp at hz1; omega))
    try (have XXw_1 : w.heap.size < w1.heap.size + 1 := by omega)
    try (have Xwp_1 : w.heap.size + 1 < w1.heap.size := by first | omega | (simp at hz1; omega))
    try (have XXwp_1 : w.heap.size + 1 < w1.heap.size + 1 := by omega)
    have b1 : Below w.heap.size w w1 := Below.trans (by (repeat (first | (with_reducible refine Below.drewN ?_) | (with_reducible refine Below.drew ?_) | ((with_reducible refine Below.alloc ?_ ?_ _); rotate_left; (first | omega | (simp <;> omega))) | ((with_reducible refine Below.setCell ?_ ?_ _); rotate_left; (first | omega | (simp <;> omega))) | (with_reducible exact Below.refl _ _) | (with_reducible assumption)))) (hb1.mono (by first | omega | (simp <;> omega)))
    go_wp2_with fail
    refine (c_szTuning_no _ _ _ _ _ (1048576 - n1) _ (by omega) (by omega) y_M1 (by omega)).mono ?_
    rintro e w2 ⟨rfl, hb2⟩
    obtain ⟨hc2, hf2, hz2⟩ := bcell hb2
    have hk2 := bblk hb2
    have Z2 : w1.heap.size ≤ w2.heap.size := by first | exact hz2 | (simp at hz2; omega) | omega
    try (have ZS2 : w1.heap.size < w2.heap.size := by first | omega | (simp at hz2; omega))
    try (have Xw_2 : w.heap.size < w2.heap.size := by first | omega | (simp at hz2; omega))
    try (have XXw_2 : w.heap.size < w2.heap.size + 1 := by omega)
    try (have Xwp_2 : w.heap.size + 1 < w2.heap.size := by first | omega | (simp at hz2; omega))
    try (have XXwp_2 : w.heap.size + 1 < w2.heap.size + 1 := by omega)
    have b2 : Below w.heap.size w w2 := Below.trans (by (repeat (first | (with_reducible refine Below.drewN ?_) | (with_reducible refine Below.drew ?_) | ((with_reducible refine Below.alloc ?_ ?_ _); rotate_left; (first | omega | (simp <;> omega))) | ((with_reducible refine Below.setCell ?_ ?_ _); rotate_left; (first | omega | (simp <;> omega))) | (with_reducible exact Below.refl _ _) | (with_reducible assumption)))) (hb2.mono (by first | omega | (simp <;> omega)))
    go_wp2
    go_ret
    exact ⟨rfl, by (repeat (first | (with_reducible refine Below.drewN ?_) | (with_reducible refine Below.drew ?_) | ((with_reducible refine Below.alloc ?_ ?_ _); rotate_left; (first | omega | (simp <;> omega))) | ((with_reducible refine Below.setCell ?_ ?_ _); rotate_left; (first | omega | (simp <;> omega))) | (with_reducible exact Below.refl _ _) | (with_reducible assumption)))⟩
  have hl2 : ¬ (1048576 - n1 - y_n1 : Int) < 0 := by omega
  go_enter Try.func6, Try.ntmps6
  go_wp2_with fail
  refine (c_szTuning_ok _ _ _ _ _ (1048576) _ (by omega) (by omega) M1 (by omega)).mono ?_
  rintro e w1 ⟨rfl, hb1⟩
  obtain ⟨hc1, hf1, hz1⟩ := bcell hb1
  have hk1 := bblk hb1
  have Z1 : w.heap.size ≤ w1.heap.size := by first | exact hz1 | (simp at hz1; omega) | omega
  try (have ZS1 : w.heap.size < w1.heap.size := by first | omega | (simp at hz1; omega))
  try (have Xw_1 : w.heap.size < w1.heap.size := by first | omega | (simp at hz1; omega))
  try (have XXw_1 : w.heap.size < w1.heap.size + 1 := by omega)
  try (have Xwp_1 : w.heap.size + 1 < w1.heap.size := by first | omega | (simp at hz1; omega))
  try (have XXwp_1 : w.heap.size + 1 < w1.heap.size + 1 := by omega)
  have b1 : Below w.heap.size w w1 := Below.trans (by (repeat (first | (with_reducible refine Below.drewN ?_) | (with_reducible refine Below.drew ?_) | ((with_reducible refine Below.alloc ?_ ?_ _); rotate_left; (first | omega | (simp <;> omega))) | ((with_reducible refine Below.setCell ?_ ?_ _); rotate_left; (first | omega | (simp <;> omega))) | (with_reducible exact Below.refl _ _) | (with_reducible assumption)))) (hb1.mono (by first | omega | (simp <;> omega)))
  go_wp2_with fail
  refine (c_szTuning_ok _ _ _ _ _ (1048576 - n1) _ (by omega) (by omega) y_M1 (by omega)).mono ?_
  rintro e w2 ⟨rfl, hb2⟩
  obtain ⟨hc2, hf2, hz2⟩ := bcell hb2
  have hk2 := bblk hb2
  have Z2 : w1.heap.size ≤ w2.heap.size := by first | exact hz2 | (simp at hz2; omega) | omega
  try (have ZS2 : w1.heap.size < w2.heap.size := by first | omega | (simp at hz2; omega))
  try (have Xw_2 : w.heap.size < w2.heap.size := by first | omega | (simp at hz2; omega))
  try (have XXw_2 : w.heap.size < w2.heap.size + 1 := by omega)
  try (have Xwp_2 : w.heap.size + 1 < w2.heap.size := by first | omega | (simp at hz2; omega))
  try (have XXwp_2 : w.heap.size + 1 < w2.heap.size + 1 := by omega)
  have b2 : Below w.heap.size w w2 := Below.trans (by (repeat (first | (with_reducible refine Below.drewN ?_) | (with_reducible refine Below.drew ?_) | ((with_reducible refine Below.alloc ?_ ?_ _); rotate_left; (first | omega | (simp <;> omega))) | ((with_reducible refine Below.setCell ?_ ?_ _); rotate_left; (first | omega | (simp <;> omega))) | (with_reducible exact Below.refl _ _) | (with_reducible assumption)))) (hb2.mono (by first | omega | (simp <;> omega)))
  go_wp2_with fail
  refine wp_region_grow [4] [1, 3] (by kernel_rfl) (by kernel_rfl) (by kernel_rfl) ?_
  apply Exists.intro
  (apply lh_o; kernel_rfl; kernel_rfl; kernel_rfl; (intro W hW; have hWc := Grow.cells hW; have hWk := bblk hW; go_simp; exact ⟨OneV.mk _, Grow.refl _⟩))
  apply lh_w (fun g : Nat => Value.agg #[.float .f32 x1, .float .f32 x2, .slice (some ⟨g, 0, none⟩) n1 n1]) (fun g w' => w2.heap.size ≤ g ∧ g < w'.heap.size ∧ OF w' g (some ⟨g, 0, none⟩) n1 n1 xs1) 0 (fun g w w' h hg => ⟨h.1, Nat.lt_of_lt_of_le h.2.1 hg.size, OF.below h.2.2 hg (Nat.le_refl _)⟩) (fun i j h => by simp at h; first | exact h | (obtain ⟨i1, i2⟩ := i; obtain ⟨j1, j2⟩ := j; simp at h; simp [h]))
  kernel_rfl
  kernel_rfl
  kernel_rfl
  · intro W hW
    have hWc := Grow.cells hW
    go_simp
    exact (c_toTuning' x1 x2 a1 n1 c1 xs1 W (FS.below (B := w.heap.size) H1.out (b2.trans (Below.mono hW b2.size)) (Nat.le_refl _)) (by omega)).mono fun e w' ⟨t1, he, hb, l0, l1, o1⟩ => ⟨t1, he, ⟨Nat.le_trans hW.size l0, l1, o1⟩, hb⟩
  exact anti
  intro g
  (apply lh_o; kernel_rfl; kernel_rfl; kernel_rfl; (intro W hW; have hWc := Grow.cells hW; have hWk := bblk hW; go_simp; exact ⟨OneV.mk _, Grow.refl _⟩))
  apply lh_w (fun h : Nat => Value.agg #[.float .f32 y_x1, .float .f32 y_x2, .slice (some ⟨h, 0, none⟩) y_n1 y_n1]) (fun h w' => w2.heap.size ≤ h ∧ h < w'.heap.size ∧ OF w' h (some ⟨h, 0, none⟩) y_n1 y_n1 y_xs1) 0 (fun h w w' h hg => ⟨h.1, Nat.lt_of_lt_of_le h.2.1 hg.size, OF.below h.2.2 hg (Nat.le_refl _)⟩) (fun i j h => by simp at h; first | exact h | (obtain ⟨i1, i2⟩ := i; obtain ⟨j1, j2⟩ := j; simp at h; simp [h]))
  kernel_rfl
  kernel_rfl
  kernel_rfl
  · intro W hW
    have hWc := Grow.cells hW
    go_simp
    exact (c_toTuning' y_x1 y_x2 y_a1 y_n1 y_c1 y_xs1 W (FS.below (B := w.heap.size) y_H1.out (b2.trans (Below.mono hW b2.size)) (Nat.le_refl _)) (by omega)).mono fun e w' ⟨t1, he, hb, l0, l1, o1⟩ => ⟨t1, he, ⟨Nat.le_trans hW.size l0, l1, o1⟩, hb⟩
  exact anti
  intro h
  (apply lh_h; kernel_rfl; kernel_rfl; kernel_rfl; (intro W hW; obtain ⟨⟨hG, hK⟩, hK2⟩ := hW; have hWc := Grow.cells hG; go_simp; exact gV (HS.out W _ _ _ _ (hK.2.2).fs (hK2.2.2).fs)))
  (apply lh_o; kernel_rfl; kernel_rfl; kernel_rfl; (intro W hW; have hWc := Grow.cells hW; go_simp; exact ⟨OneV.mk _, Grow.refl _⟩))
  refine lh_nil ?_
  intro w3 hW3
  simp only [Act.put, List.setIfInBounds_toArray, List.set_cons_succ, List.set_cons_zero]
  have hb3 : Below w2.heap.size w2 w3 := hW3.1.1
  clear hW3
  obtain ⟨hc3, hf3, hz3⟩ := bcell hb3
  have hk3 := bblk hb3
  have Z3 : w2.heap.size ≤ w3.heap.size := by first | exact hz3 | (simp at hz3; omega) | omega
  try (have ZS3 : w2.heap.size < w3.heap.size := by first | omega | (simp at hz3; omega))
  try (have Xw_3 : w.heap.size < w3.heap.size := by first | omega | (simp at hz3; omega))
  try (have XXw_3 : w.heap.size < w3.heap.size + 1 := by omega)
  try (have Xwp_3 : w.heap.size + 1 < w3.heap.size := by first | omega | (simp at hz3; omega))
  try (have XXwp_3 : w.heap.size + 1 < w3.heap.size + 1 := by omega)
  have b3 : Below w.heap.size w w3 := Below.trans (by (repeat (first | (with_reducible refine Below.drewN ?_) | (with_reducible refine Below.drew ?_) | ((with_reducible refine Below.alloc ?_ ?_ _); rotate_left; (first | omega | (simp <;> omega))) | ((with_reducible refine Below.setCell ?_ ?_ _); rotate_left; (first | omega | (simp <;> omega))) | (with_reducible exact Below.refl _ _) | (with_reducible assumption)))) (hb3.mono (by first | omega | (simp <;> omega)))
  go_wp2_with fail
  refine (c_toTuning' x1 x2 a1 n1 c1 xs1 _ (FS.below (B := w.heap.size) H1.out (by (repeat (first | (with_reducible refine Below.drewN ?_) | (with_reducible refine Below.drew ?_) | ((with_reducible refine Below.alloc ?_ ?_ _); rotate_left; (first | omega | (simp <;> omega))) | ((with_reducible refine Below.setCell ?_ ?_ _); rotate_left; (first | omega | (simp <;> omega))) | (with_reducible exact Below.refl _ _) | (with_reducible assumption)))) (Nat.le_refl _)) (by omega)).mono ?_
  rintro e w4 ⟨g1x, rfl, hb4, l0x, l1x, o1x_4⟩
  obtain ⟨hc4, hf4, hz4⟩ := bcell hb4
  have hk4 := bblk hb4
  have Z4 : w3.heap.size ≤ w4.heap.size := by first | exact hz4 | (simp at hz4; omega) | omega
  try (have ZS4 : w3.heap.size < w4.heap.size := by first | omega | (simp at hz4; omega))
  try (have Xw_4 : w.heap.size < w4.heap.size := by first | omega | (simp at hz4; omega))
  try (have XXw_4 : w.heap.size < w4.heap.size + 1 := by omega)
  try (have Xwp_4 : w.heap.size + 1 < w4.heap.size := by first | omega | (simp at hz4; omega))
  try (have XXwp_4 : w.heap.size + 1 < w4.heap.size + 1 := by omega)
  have b4 : Below w.heap.size w w4 := Below.trans (by (repeat (first | (with_reducible refine Below.drewN ?_) | (with_reducible refine Below.drew ?_) | ((with_reducible refine Below.alloc ?_ ?_ _); rotate_left; (first | omega | (simp <;> omega))) | ((with_reducible refine Below.setCell ?_ ?_ _); rotate_left; (first | omega | (simp <;> omega))) | (with_reducible exact Below.refl _ _) | (with_reducible assumption)))) (hb4.mono (by first | omega | (simp <;> omega)))
  try simp at l0x
  have q1x : w3.heap.size ≤ g1x ∧ g1x < w4.heap.size := by omega
  go_wp2_with fail
  refine (c_toTuning' y_x1 y_x2 y_a1 y_n1 y_c1 y_xs1 _ (FS.below (B := w.heap.size) y_H1.out (by (repeat (first | (with_reducible refine Below.drewN ?_) | (with_reducible refine Below.drew ?_) | ((with_reducible refine Below.alloc ?_ ?_ _); rotate_left; (first | omega | (simp <;> omega))) | ((with_reducible refine Below.setCell ?_ ?_ _); rotate_left; (first | omega | (simp <;> omega))) | (with_reducible exact Below.refl _ _) | (with_reducible assumption)))) (Nat.le_refl _)) (by omega)).mono ?_
  rintro e w5 ⟨g1z, rfl, hb5, l0z, l1z, o1z_5⟩
  obtain ⟨hc5, hf5, hz5⟩ := bcell hb5
  have hk5 := bblk hb5
  have Z5 : w4.heap.size ≤ w5.heap.size := by first | exact hz5 | (simp at hz5; omega) | omega
  try (have ZS5 : w4.heap.size < w5.heap.size := by first | omega | (simp at hz5; omega))
  try (have Xw_5 : w.heap.size < w5.heap.size := by first | omega | (simp at hz5; omega))
  try (have XXw_5 : w.heap.size < w5.heap.size + 1 := by omega)
  try (have Xwp_5 : w.heap.size + 1 < w5.heap.size := by first | omega | (simp at hz5; omega))
  try (have XXwp_5 : w.heap.size + 1 < w5.heap.size + 1 := by omega)
  try (have Xw4_5 : w4.heap.size < w5.heap.size := by first | omega | (simp at hz5; omega))
  try (have XXw4_5 : w4.heap.size < w5.heap.size + 1 := by omega)
  have b5 : Below w.heap.size w w5 := Below.trans (by (repeat (first | (with_reducible refine Below.drewN ?_) | (with_reducible refine Below.drew ?_) | ((with_reducible refine Below.alloc ?_ ?_ _); rotate_left; (first | omega | (simp <;> omega))) | ((with_reducible refine Below.setCell ?_ ?_ _); rotate_left; (first | omega | (simp <;> omega))) | (with_reducible exact Below.refl _ _) | (with_reducible assumption)))) (hb5.mono (by first | omega | (simp <;> omega)))
  try simp at l0z
  have q1z : w4.heap.size ≤ g1z ∧ g1z < w5.heap.size := by omega
  have o1x_5 := OF.below (g := g1x) (a := (some ⟨g1x, 0, none⟩)) (n := n1) (c := n1) (xs := xs1) (by (repeat (first | (with_reducible assumption) | (with_reducible refine OF.draw ?_) | (with_reducible exact OF.made' (by simp) (by simp) (by omega)) | (with_reducible refine OF.alloc ?_ _) | ((with_reducible refine OF.setCell ?_ ?_ _); rotate_left; (first | omega | (simp <;> omega)))))) hb5 (Nat.le_refl _)
  clear o1x_4
  go_wp2_with fail
  refine (HI.out _ _ _ _ _ (FS.below (B := w5.heap.size) o1x_5.fs (by (repeat (first | (with_reducible refine Below.drewN ?_) | (with_reducible refine Below.drew ?_) | ((with_reducible refine Below.alloc ?_ ?_ _); rotate_left; (first | omega | (simp <;> omega))) | ((with_reducible refine Below.setCell ?_ ?_ _); rotate_left; (first | omega | (simp <;> omega))) | (with_reducible exact Below.refl _ _) | (with_reducible assumption)))) (Nat.le_refl _)) (FS.below (B := w5.heap.size) o1z_5.fs (by (repeat (first | (with_reducible refine Below.drewN ?_) | (with_reducible refine Below.drew ?_) | ((with_reducible refine Below.alloc ?_ ?_ _); rotate_left; (first | omega | (simp <;> omega))) | ((with_reducible refine Below.setCell ?_ ?_ _); rotate_left; (first | omega | (simp <;> omega))) | (with_reducible exact Below.refl _ _) | (with_reducible assumption)))) (Nat.le_refl _))).mono ?_
  rintro e w6 ⟨rfl, hb6⟩
  obtain ⟨hc6, hf6, hz6⟩ := bcell hb6
  have hk6 := bblk hb6
  have Z6 : w5.heap.size ≤ w6.heap.size := by first | exact hz6 | (simp at hz6; omega) | omega
  try (have ZS6 : w5.heap.size < w6.heap.size := by first | omega | (simp at hz6; omega))
  try (have Xw_6 : w.heap.size < w6.heap.size := by first | omega | (simp at hz6; omega))
  try (have XXw_6 : w.heap.size < w6.heap.size + 1 := by omega)
  try (have Xwp_6 : w.heap.size + 1 < w6.heap.size := by first | omega | (simp at hz6; omega))
  try (have XXwp_6 : w.heap.size + 1 < w6.heap.size + 1 := by omega)
  try (have Xw4_6 : w4.heap.size < w6.heap.size := by first | omega | (simp at hz6; omega))
  try (have XXw4_6 : w4.heap.size < w6.heap.size + 1 := by omega)
  try (have Xw5_6 : w5.heap.size < w6.heap.size := by first | omega | (simp at hz6; omega))
  try (have XXw5_6 : w5.heap.size < w6.heap.size + 1 := by omega)
  have b6 : Below w.heap.size w w6 := Below.trans (by (repeat (first | (with_reducible refine Below.drewN ?_) | (with_reducible refine Below.drew ?_) | ((with_reducible refine Below.alloc ?_ ?_ _); rotate_left; (first | omega | (simp <;> omega))) | ((with_reducible refine Below.setCell ?_ ?_ _); rotate_left; (first | omega | (simp <;> omega))) | (with_reducible exact Below.refl _ _) | (with_reducible assumption)))) (hb6.mono (by first | omega | (simp <;> omega)))
  have o1x_6 := OF.below (g := g1x) (a := (some ⟨g1x, 0, none⟩)) (n := n1) (c := n1) (xs := xs1) (by (repeat (first | (with_reducible assumption) | (with_reducible refine OF.draw ?_) | (with_reducible exact OF.made' (by simp) (by simp) (by omega)) | (with_reducible refine OF.alloc ?_ _) | ((with_reducible refine OF.setCell ?_ ?_ _); rotate_left; (first | omega | (simp <;> omega)))))) hb6 (Nat.le_refl _)
  clear o1x_5
  have o1z_6 := OF.below (g := g1z) (a := (some ⟨g1z, 0, none⟩)) (n := y_n1) (c := y_n1) (xs := y_xs1) (by (repeat (first | (with_reducible assumption) | (with_reducible refine OF.draw ?_) | (with_reducible exact OF.made' (by simp) (by simp) (by omega)) | (with_reducible refine OF.alloc ?_ _) | ((with_reducible refine OF.setCell ?_ ?_ _); rotate_left; (first | omega | (simp <;> omega)))))) hb6 (Nat.le_refl _)
  clear o1z_5
  go_wp2_with fail
  refine wp_region_grow [3] [2] (by kernel_rfl) (by kernel_rfl) (by kernel_rfl) ?_
  apply Exists.intro
  iterate 2 (apply lh_o; kernel_rfl; kernel_rfl; kernel_rfl; (intro W hW; have hWc := Grow.cells hW; have hWk := bblk hW; go_simp; exact ⟨OneV.mk _, Grow.refl _⟩))
  apply lh_w (fun g : Nat => Value.agg #[.float .f32 x1, .float .f32 x2, .slice (some ⟨g, 0, none⟩) n1 n1]) (fun g w' => w6.heap.size ≤ g ∧ g < w'.heap.size ∧ OF w' g (some ⟨g, 0, none⟩) n1 n1 xs1) 0 (fun g w w' h hg => ⟨h.1, Nat.lt_of_lt_of_le h.2.1 hg.size, OF.below h.2.2 hg (Nat.le_refl _)⟩) (fun i j h => by simp at h; first | exact h | (obtain ⟨i1, i2⟩ := i; obtain ⟨j1, j2⟩ := j; simp at h; simp [h]))
  kernel_rfl
  kernel_rfl
  kernel_rfl
  · intro W hW
    have hWc := Grow.cells hW
    go_simp
    exact (c_toTuning' x1 x2 a1 n1 c1 xs1 W (FS.below (B := w.heap.size) H1.out (b6.trans (Below.mono hW b6.size)) (Nat.le_refl _)) (by omega)).mono fun e w' ⟨t1, he, hb, l0, l1, o1⟩ => ⟨t1, he, ⟨Nat.le_trans hW.size l0, l1, o1⟩, hb⟩
  exact anti
  intro g
  (apply lh_h; kernel_rfl; kernel_rfl; kernel_rfl; (intro W hW; obtain ⟨hG, hK⟩ := hW; have hWc := Grow.cells hG; go_simp; exact gV (c_eqTuning' _ _ _ _ _ _ _ _ _ _ _ W rfl rfl (FS.below (B := w6.heap.size) o1x_6.fs hG (Nat.le_refl _)) (hK.2.2).fs (Alk.refl _))))
  (apply lh_o; kernel_rfl; kernel_rfl; kernel_rfl; (intro W hW; have hWc := Grow.cells hW; go_simp; exact ⟨OneV.mk _, Grow.refl _⟩))
  refine lh_nil ?_
  intro w7 hW7
  simp only [Act.put, List.setIfInBounds_toArray, List.set_cons_succ, List.set_cons_zero]
  have hb7 : Below w6.heap.size w6 w7 := hW7.1
  clear hW7
  obtain ⟨hc7, hf7, hz7⟩ := bcell hb7
  have hk7 := bblk hb7
  have Z7 : w6.heap.size ≤ w7.heap.size := by first | exact hz7 | (simp at hz7; omega) | omega
  try (have ZS7 : w6.heap.size < w7.heap.size := by first | omega | (simp at hz7; omega))
  try (have Xw_7 : w.heap.size < w7.heap.size := by first | omega | (simp at hz7; omega))
  try (have XXw_7 : w.heap.size < w7.heap.size + 1 := by omega)
  try (have Xwp_7 : w.heap.size + 1 < w7.heap.size := by first | omega | (simp at hz7; omega))
  try (have XXwp_7 : w.heap.size + 1 < w7.heap.size + 1 := by omega)
  try (have Xw4_7 : w4.heap.size < w7.heap.size := by first | omega | (simp at hz7; omega))
  try (have XXw4_7 : w4.heap.size < w7.heap.size + 1 := by omega)
  try (have Xw5_7 : w5.heap.size < w7.heap.size := by first | omega | (simp at hz7; omega))
  try (have XXw5_7 : w5.heap.size < w7.heap.size + 1 := by omega)
  have b7 : Below w.heap.size w w7 := Below.trans (by (repeat (first | (with_reducible refine Below.drewN ?_) | (with_reducible refine Below.drew ?_) | ((with_reducible refine Below.alloc ?_ ?_ _); rotate_left; (first | omega | (simp <;> omega))) | ((with_reducible refine Below.setCell ?_ ?_ _); rotate_left; (first | omega | (simp <;> omega))) | (with_reducible exact Below.refl _ _) | (with_reducible assumption)))) (hb7.mono (by first | omega | (simp <;> omega)))
  have o1x_7 := OF.below (g := g1x) (a := (some ⟨g1x, 0, none⟩)) (n := n1) (c := n1) (xs := xs1) (by (repeat (first | (with_reducible assumption) | (with_reducible refine OF.draw ?_) | (with_reducible exact OF.made' (by simp) (by simp) (by omega)) | (with_reducible refine OF.alloc ?_ _) | ((with_reducible refine OF.setCell ?_ ?_ _); rotate_left; (first | omega | (simp <;> omega)))))) hb7 (Nat.le_refl _)
  clear o1x_6
  have o1z_7 := OF.below (g := g1z) (a := (some ⟨g1z, 0, none⟩)) (n := y_n1) (c := y_n1) (xs := y_xs1) (by (repeat (first | (with_reducible assumption) | (with_reducible refine OF.draw ?_) | (with_reducible exact OF.made' (by simp) (by simp) (by omega)) | (with_reducible refine OF.alloc ?_ _) | ((with_reducible refine OF.setCell ?_ ?_ _); rotate_left; (first | omega | (simp <;> omega)))))) hb7 (Nat.le_refl _)
  clear o1z_6
  go_wp2_with fail
  refine wp_region_grow [3] [2] (by kernel_rfl) (by kernel_rfl) (by kernel_rfl) ?_
  apply Exists.intro
  iterate 2 (apply lh_o; kernel_rfl; kernel_rfl; kernel_rfl; (intro W hW; have hWc := Grow.cells hW; have hWk := bblk hW; go_simp; exact ⟨OneV.mk _, Grow.refl _⟩))
  apply lh_w (fun g : Nat => Value.agg #[.float .f32 y_x1, .float .f32 y_x2, .slice (some ⟨g, 0, none⟩) y_n1 y_n1]) (fun g w' => w7.heap.size ≤ g ∧ g < w'.heap.size ∧ OF w' g (some ⟨g, 0, none⟩) y_n1 y_n1 y_xs1) 0 (fun g w w' h hg => ⟨h.1, Nat.lt_of_lt_of_le h.2.1 hg.size, OF.below h.2.2 hg (Nat.le_refl _)⟩) (fun i j h => by simp at h; first | exact h | (obtain ⟨i1, i2⟩ := i; obtain ⟨j1, j2⟩ := j; simp at h; simp [h]))
  kernel_rfl
  kernel_rfl
  kernel_rfl
  · intro W hW
    have hWc := Grow.cells hW
    go_simp
    exact (c_toTuning' y_x1 y_x2 y_a1 y_n1 y_c1 y_xs1 W (FS.below (B := w.heap.size) y_H1.out (b7.trans (Below.mono hW b7.size)) (Nat.le_refl _)) (by omega)).mono fun e w' ⟨t1, he, hb, l0, l1, o1⟩ => ⟨t1, he, ⟨Nat.le_trans hW.size l0, l1, o1⟩, hb⟩
  exact anti
  intro g
  (apply lh_h; kernel_rfl; kernel_rfl; kernel_rfl; (intro W hW; obtain ⟨hG, hK⟩ := hW; have hWc := Grow.cells hG; go_simp; exact gV (c_eqTuning' _ _ _ _ _ _ _ _ _ _ _ W rfl rfl (FS.below (B := w7.heap.size) o1z_7.fs hG (Nat.le_refl _)) (hK.2.2).fs (Alk.refl _))))
  (apply lh_o; kernel_rfl; kernel_rfl; kernel_rfl; (intro W hW; have hWc := Grow.cells hW; go_simp; exact ⟨OneV.mk _, Grow.refl _⟩))
  refine lh_nil ?_
  intro w8 hW8
  simp only [Act.put, List.setIfInBounds_toArray, List.set_cons_succ, List.set_cons_zero]
  have hb8 : Below w7.heap.size w7 w8 := hW8.1
  clear hW8
  obtain ⟨hc8, hf8, hz8⟩ := bcell hb8
  have hk8 := bblk hb8
  have Z8 : w7.heap.size ≤ w8.heap.size := by first | exact hz8 | (simp at hz8; omega) | omega
  try (have ZS8 : w7.heap.size < w8.heap.size := by first | omega | (simp at hz8; omega))
  try (have Xw_8 : w.heap.size < w8.heap.size := by first | omega | (simp at hz8; omega))
  try (have XXw_8 : w.heap.size < w8.heap.size + 1 := by omega)
  try (have Xwp_8 : w.heap.size + 1 < w8.heap.size := by first | omega | (simp at hz8; omega))
  try (have XXwp_8 : w.heap.size + 1 < w8.heap.size + 1 := by omega)
  try (have Xw4_8 : w4.heap.size < w8.heap.size := by first | omega | (simp at hz8; omega))
  try (have XXw4_8 : w4.heap.size < w8.heap.size + 1 := by omega)
  try (have Xw5_8 : w5.heap.size < w8.heap.size := by first | omega | (simp at hz8; omega))
  try (have XXw5_8 : w5.heap.size < w8.heap.size + 1 := by omega)
  have b8 : Below w.heap.size w w8 := Below.trans (by (repeat (first | (with_reducible refine Below.drewN ?_) | (with_reducible refine Below.drew ?_) | ((with_reducible refine Below.alloc ?_ ?_ _); rotate_left; (first | omega | (simp <;> omega))) | ((with_reducible refine Below.setCell ?_ ?_ _); rotate_left; (first | omega | (simp <;> omega))) | (with_reducible exact Below.refl _ _) | (with_reducible assumption)))) (hb8.mono (by first | omega | (simp <;> omega)))
  have o1z_8 := OF.below (g := g1z) (a := (some ⟨g1z, 0, none⟩)) (n := y_n1) (c := y_n1) (xs := y_xs1) (by (repeat (first | (with_reducible assumption) | (with_reducible refine OF.draw ?_) | (with_reducible exact OF.made' (by simp) (by simp) (by omega)) | (with_reducible refine OF.alloc ?_ _) | ((with_reducible refine OF.setCell ?_ ?_ _); rotate_left; (first | omega | (simp <;> omega)))))) hb8 (Nat.le_refl _)
  clear o1z_7
  go_wp2
  go_ret
  exact ⟨rfl, by (repeat (first | (with_reducible refine Below.drewN ?_) | (with_reducible refine Below.drew ?_) | ((with_reducible refine Below.alloc ?_ ?_ _); rotate_left; (first | omega | (simp <;> omega))) | ((with_reducible refine Below.setCell ?_ ?_ _); rotate_left; (first | omega | (simp <;> omega))) | (with_reducible exact Below.refl _ _) | (with_reducible assumption)))⟩


theorem k_SameTuning (x1 : Nat) (x2 : Nat) (a1 : Option Addr) (n1 c1 : Nat) (xs1 : List Nat) (y_x1 : Nat) (y_x2 : Nat) (y_a1 : Option Addr) (y_n1 y_c1 : Nat) (y_xs1 : List Nat) (w : World) (h_1 : FS w a1 n1 c1 xs1) (y_h_1 : FS w y_a1 y_n1 y_c1 y_xs1) :
    Calls Try.prog 6 #[.agg #[.float .f32 x1, .float .f32 x2, .slice a1 n1 c1], .agg #[.float .f32 y_x1, .float .f32 y_x2, .slice y_a1 y_n1 y_c1]] w (RetV (.bool true) w) :=
  l_SameTuning x1 x2 a1 n1 c1 xs1 y_x1 y_x2 y_a1 y_n1 y_c1 y_xs1 (((sameB x1 y_x1) && (sameB x2 y_x2)) && (sameL n1 y_n1 xs1 y_xs1)) w h_1 y_h_1 (fun W _ _ _ _ j1 i1 => c_sSameTuning _ _ _ _ _ _ _ _ _ _ _ _ W j1 i1) (fun W _ _ _ _ j1 i1 => c_SameTuning _ _ _ _ _ _ _ _ _ _ _ _ W j1 i1)


end Go.Proofs.Ytdhiihmfgmempaa
