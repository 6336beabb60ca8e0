
/-
Contracts of the laws' own helpers over jets.
-/
import Derived.Test.YtbdanadmabemdaaDoorMc
namespace Go.Proofs.YtbdanadmabemdaaDoor
open Go Go.RowKit Fl
theorem c_szJet_ok (a1 : Option Addr) (n1 c1 : Nat) (i1 : Int) (a2 : Option Addr) (n2 c2 : Nat) (i2 : Int) (k1 : Int) (f1_0 f1_1 f1_2 f1_3 f1_4 : Nat) (k2 : Int) (f2_0 f2_1 f2_2 f2_3 f2_4 : Nat) (x1 : Nat) (x2 : Nat) (left : Int) (w : World) (h0 : 0 ≤ left) (h1 : left ≤ 1048576) (m1 : n1 ≤ 9223372036854775807) (m2 : n2 ≤ 9223372036854775807) (h : (n1 : Int) + (n2 : Int) ≤ left) :
    Calls Tryd.prog 11 #[.agg #[.slice a1 n1 c1, .int .i64 i1, .slice a2 n2 c2, .int .i64 i2, .int .i64 k1, .float .f32 f1_0, .float .f32 f1_1, .float .f32 f1_2, .float .f32 f1_3, .float .f32 f1_4, .int .i64 k2, .float .f32 f2_0, .float .f32 f2_1, .float .f32 f2_2, .float .f32 f2_3, .float .f32 f2_4, .float .f32 x1, .float .f32 x2], .int .i64 left] w (RetV (.int .i64 (left - n1 - n2)) w) := by
  go_enter Tryd.func11, Tryd.ntmps11
  go_wp2_with fail
  refine (c_szRing_ok a1 n1 c1 i1 (left) _ (by omega) (by omega) m1 (by omega)).mono ?_
  rintro e w1 ⟨rfl, hb1⟩
  obtain ⟨hc1, hf1, hz1⟩ := bcell hb1
  have g1 : ¬ (left - n1) < 0 := by omega
  try simp at hz1
  have zb1 : w.heap.size ≤ w1.heap.size := by omega
  try (have z1_0 : w.heap.size < w1.heap.size := by omega)
  try (have z1_1 : w.heap.size + 1 < w1.heap.size := by omega)
  try (have z1_2 : w.heap.size + 1 + 1 < w1.heap.size := by omega)
  try (have z1_3 : w.heap.size + 1 + 1 + 1 < w1.heap.size := by omega)
  go_wp2_with fail
  refine (c_szRing_ok a2 n2 c2 i2 (left - n1) _ (by omega) (by omega) m2 (by omega)).mono ?_
  rintro e w2 ⟨rfl, hb2⟩
  obtain ⟨hc2, hf2, hz2⟩ := bcell hb2
  have g2 : ¬ (left - n1 - n2) < 0 := by omega
  try simp at hz2
  have zb2 : w.heap.size ≤ w2.heap.size := by omega
  try (have z2_0 : w.heap.size < w2.heap.size := by omega)
  try (have z2_1 : w.heap.size + 1 < w2.heap.size := by omega)
  try (have z2_2 : w.heap.size + 1 + 1 < w2.heap.size := by omega)
  try (have z2_3 : w.heap.size + 1 + 1 + 1 < w2.heap.size := by omega)
  go_wp2
  go_ret
  have b1 : Below w.heap.size w w1 := Below.trans (by (repeat (first | (with_reducible refine Below.drewN ?_) | (with_reducible refine Below.drew ?_) | ((with_reducible refine Below.alloc ?_ ?_ _); rotate_left; (first | omega | (simp <;> omega))) | ((with_reducible refine Below.setCell ?_ ?_ _); rotate_left; (first | omega | (simp <;> omega))) | (with_reducible exact Below.refl _ _) | (with_reducible assumption)))) (hb1.mono (by first | omega | (simp <;> omega)))
  have b2 : Below w.heap.size w w2 := b1.trans (hb2.mono (by omega))
  exact ⟨rfl, b2⟩
theorem c_szJet_no (a1 : Option Addr) (n1 c1 : Nat) (i1 : Int) (a2 : Option Addr) (n2 c2 : Nat) (i2 : Int) (k1 : Int) (f1_0 f1_1 f1_2 f1_3 f1_4 : Nat) (k2 : Int) (f2_0 f2_1 f2_2 f2_3 f2_4 : Nat) (x1 : Nat) (x2 : Nat) (left : Int) (w : World) (h0 : 0 ≤ left) (h1 : left ≤ 1048576) (m1 : n1 ≤ 9223372036854775807) (m2 : n2 ≤ 9223372036854775807) (h : left < (n1 : Int) + (n2 : Int)) :
    Calls Tryd.prog 11 #[.agg #[.slice a1 n1 c1, .int .i64 i1, .slice a2 n2 c2, .int .i64 i2, .int .i64 k1, .float .f32 f1_0, .float .f32 f1_1, .float .f32 f1_2, .float .f32 f1_3, .float .f32 f1_4, .int .i64 k2, .float .f32 f2_0, .float .f32 f2_1, .float .f32 f2_2, .float .f32 f2_3, .float .f32 f2_4, .float .f32 x1, .float .f32 x2], .int .i64 left] w (RetV (.int .i64 (-1)) w) := by
  by_cases q1 : left < (n1 : Int)
  · go_enter Tryd.func11, Tryd.ntmps11
    go_wp2_with fail
    refine (c_szRing_no a1 n1 c1 i1 (left) _ (by omega) (by omega) m1 (by omega)).mono ?_
    rintro e w1 ⟨rfl, hb1⟩
    obtain ⟨hc1, hf1, hz1⟩ := bcell hb1
    go_wp2
    go_ret
    have b1 : Below w.heap.size w w1 := Below.trans (by (repeat (first | (with_reducible refine Below.drewN ?_) | (with_reducible refine Below.drew ?_) | ((with_reducible refine Below.alloc ?_ ?_ _); rotate_left; (first | omega | (simp <;> omega))) | ((with_reducible refine Below.setCell ?_ ?_ _); rotate_left; (first | omega | (simp <;> omega))) | (with_reducible exact Below.refl _ _) | (with_reducible assumption)))) (hb1.mono (by first | omega | (simp <;> omega)))
    exact ⟨rfl, b1⟩
  go_enter Tryd.func11, Tryd.ntmps11
  go_wp2_with fail
  refine (c_szRing_ok a1 n1 c1 i1 (left) _ (by omega) (by omega) m1 (by omega)).mono ?_
  rintro e w1 ⟨rfl, hb1⟩
  obtain ⟨hc1, hf1, hz1⟩ := bcell hb1
  have g1 : ¬ (left - n1) < 0 := by omega
  try simp at hz1
  have zb1 : w.heap.size ≤ w1.heap.size := by omega
  try (have z1_0 : w.heap.size < w1.heap.size := by omega)
  try (have z1_1 : w.heap.size + 1 < w1.heap.size := by omega)
  try (have z1_2 : w.heap.size + 1 + 1 < w1.heap.size := by omega)
  try (have z1_3 : w.heap.size + 1 + 1 + 1 < w1.heap.size := by omega)
  go_wp2_with fail
  refine (c_szRing_no a2 n2 c2 i2 (left - n1) _ (by omega) (by omega) m2 (by omega)).mono ?_
  rintro e w2 ⟨rfl, hb2⟩
  obtain ⟨hc2, hf2, hz2⟩ := bcell hb2
  go_wp2
  go_ret
  have b1 : Below w.heap.size w w1 := Below.trans (by (repeat (first | (with_reducible refine Below.drewN ?_) | (with_reducible refine Below.drew ?_) | ((with_reducible refine Below.alloc ?_ ?_ _); rotate_left; (first | omega | (simp <;> omega))) | ((with_reducible refine Below.setCell ?_ ?_ _); rotate_left; (first | omega | (simp <;> omega))) | (with_reducible exact Below.refl _ _) | (with_reducible assumption)))) (hb1.mono (by first | omega | (simp <;> omega)))
  have b2 : Below w.heap.size w w2 := b1.trans (hb2.mono (by omega))
  exact ⟨rfl, b2⟩
set_option maxRecDepth 100000 in
set_option maxHeartbeats 4000000 in
theorem c_toJet' (a1 : Option Addr) (n1 c1 : Nat) (xs1 : List Nat) (i1 : Int) (a2 : Option Addr) (n2 c2 : Nat) (xs2 : List Nat) (i2 : Int) (k1 : Int) (f1_0 f1_1 f1_2 f1_3 f1_4 : Nat) (k2 : Int) (f2_0 f2_1 f2_2 f2_3 f2_4 : Nat) (x1 : Nat) (x2 : Nat) (w : World) (h1 : FS w a1 n1 c1 xs1) (m1 : n1 ≤ 1048576) (h2 : FS w a2 n2 c2 xs2) (m2 : n2 ≤ 1048576) :
    Calls Tryd.prog 13 #[.agg #[.slice a1 n1 c1, .int .i64 i1, .slice a2 n2 c2, .int .i64 i2, .int .i64 k1, .float .f32 f1_0, .float .f32 f1_1, .float .f32 f1_2, .float .f32 f1_3, .float .f32 f1_4, .int .i64 k2, .float .f32 f2_0, .float .f32 f2_1, .float .f32 f2_2, .float .f32 f2_3, .float .f32 f2_4, .float .f32 x1, .float .f32 x2]] w (fun e w' => ∃ g1 g2, e = .returned (.agg #[.slice (some ⟨g1, 0, none⟩) n1 n1, .int .i64 i1, .slice (some ⟨g2, 0, none⟩) n2 n2, .int .i64 i2, .int .i64 k1, .float .f32 f1_0, .float .f32 f1_1, .float .f32 f1_2, .float .f32 f1_3, .float .f32 f1_4, .int .i64 k2, .float .f32 f2_0, .float .f32 f2_1, .float .f32 f2_2, .float .f32 f2_3, .float .f32 f2_4, .float .f32 x1, .float .f32 x2]) ∧ Below w.heap.size w w' ∧ w.heap.size ≤ g1 ∧ g1 < g2 ∧ g2 < w'.heap.size ∧ OF w' g1 (some ⟨g1, 0, none⟩) n1 n1 xs1 ∧ OF w' g2 (some ⟨g2, 0, none⟩) n2 n2 xs2) := by
  have H1 := Lib.hid h1
  clear h1
  have H2 := Lib.hid h2
  clear h2
  go_enter Tryd.func13, Tryd.ntmps13
  go_wp2_with fail
  refine (c_toRing' a1 n1 c1 xs1 i1 _ (FS.below (B := w.heap.size) H1.out (by (repeat (first | (with_reducible refine Below.drewN ?_) | (with_reducible refine Below.drew ?_) | ((with_reducible refine Below.alloc ?_ ?_ _); rotate_left; (first | omega | (simp <;> omega))) | ((with_reducible refine Below.setCell ?_ ?_ _); rotate_left; (first | omega | (simp <;> omega))) | (with_reducible exact Below.refl _ _) | (with_reducible assumption)))) (Nat.le_refl _)) m1).mono ?_
  rintro e w1 ⟨g1, rfl, hb1, hg1, hs1, of1_1⟩
  obtain ⟨hc1, hf1, hz1⟩ := bcell hb1
  try simp at hz1
  have zb1 : w.heap.size ≤ w1.heap.size := by omega
  try (have z1_0 : w.heap.size < w1.heap.size := by omega)
  try (have z1_1 : w.heap.size + 1 < w1.heap.size := by omega)
  try (have z1_2 : w.heap.size + 1 + 1 < w1.heap.size := by omega)
  try (have z1_3 : w.heap.size + 1 + 1 + 1 < w1.heap.size := by omega)
  have b1 : Below w.heap.size w w1 := Below.trans (by (repeat (first | (with_reducible refine Below.drewN ?_) | (with_reducible refine Below.drew ?_) | ((with_reducible refine Below.alloc ?_ ?_ _); rotate_left; (first | omega | (simp <;> omega))) | ((with_reducible refine Below.setCell ?_ ?_ _); rotate_left; (first | omega | (simp <;> omega))) | (with_reducible exact Below.refl _ _) | (with_reducible assumption)))) (hb1.mono (by first | omega | (simp <;> omega)))
  try simp at hg1
  have L1_1 : g1 < w1.heap.size := by first | assumption | omega
  go_wp2_with fail
  refine (c_toRing' a2 n2 c2 xs2 i2 _ (FS.below (B := w.heap.size) H2.out (by (repeat (first | (with_reducible refine Below.drewN ?_) | (with_reducible refine Below.drew ?_) | ((with_reducible refine Below.alloc ?_ ?_ _); rotate_left; (first | omega | (simp <;> omega))) | ((with_reducible refine Below.setCell ?_ ?_ _); rotate_left; (first | omega | (simp <;> omega))) | (with_reducible exact Below.refl _ _) | (with_reducible assumption)))) (Nat.le_refl _)) m2).mono ?_
  rintro e w2 ⟨g2, rfl, hb2, hg2, hs2, of2_2⟩
  obtain ⟨hc2, hf2, hz2⟩ := bcell hb2
  try simp at hz2
  have zb2 : w.heap.size ≤ w2.heap.size := by omega
  try (have z2_0 : w.heap.size < w2.heap.size := by omega)
  try (have z2_1 : w.heap.size + 1 < w2.heap.size := by omega)
  try (have z2_2 : w.heap.size + 1 + 1 < w2.heap.size := by omega)
  try (have z2_3 : w.heap.size + 1 + 1 + 1 < w2.heap.size := by omega)
  have b2 : Below w.heap.size w w2 := Below.trans (by (repeat (first | (with_reducible refine Below.drewN ?_) | (with_reducible refine Below.drew ?_) | ((with_reducible refine Below.alloc ?_ ?_ _); rotate_left; (first | omega | (simp <;> omega))) | ((with_reducible refine Below.setCell ?_ ?_ _); rotate_left; (first | omega | (simp <;> omega))) | (with_reducible exact Below.refl _ _) | (with_reducible assumption)))) (hb2.mono (by first | omega | (simp <;> omega)))
  try simp at hg2
  have G2 : g1 < g2 := by omega
  have of1_2 := OF.below (g := g1) (a := some ⟨g1, 0, none⟩) (n := n1) (c := n1) (xs := xs1) (by (repeat (first | (with_reducible assumption) | (with_reducible refine OF.draw ?_) | (with_reducible exact OF.made' (by simp) (by simp) (by omega)) | (with_reducible refine OF.alloc ?_ _) | ((with_reducible refine OF.setCell ?_ ?_ _); rotate_left; (first | omega | (simp <;> omega)))))) hb2 (Nat.le_refl _)
  have L1_2 : g1 < w2.heap.size := by first | assumption | omega
  have L2_2 : g2 < w2.heap.size := by first | assumption | omega
  go_wp2_with fail
  refine (c_toFilter _ _ _ _ _ _ _).mono ?_
  rintro e w3 ⟨rfl, hb3⟩
  obtain ⟨hc3, hf3, hz3⟩ := bcell hb3
  try simp at hz3
  have zb3 : w.heap.size ≤ w3.heap.size := by omega
  try (have z3_0 : w.heap.size < w3.heap.size := by omega)
  try (have z3_1 : w.heap.size + 1 < w3.heap.size := by omega)
  try (have z3_2 : w.heap.size + 1 + 1 < w3.heap.size := by omega)
  try (have z3_3 : w.heap.size + 1 + 1 + 1 < w3.heap.size := by omega)
  have b3 : Below w.heap.size w w3 := Below.trans (by (repeat (first | (with_reducible refine Below.drewN ?_) | (with_reducible refine Below.drew ?_) | ((with_reducible refine Below.alloc ?_ ?_ _); rotate_left; (first | omega | (simp <;> omega))) | ((with_reducible refine Below.setCell ?_ ?_ _); rotate_left; (first | omega | (simp <;> omega))) | (with_reducible exact Below.refl _ _) | (with_reducible assumption)))) (hb3.mono (by first | omega | (simp <;> omega)))
  have of1_3 := OF.below (g := g1) (a := some ⟨g1, 0, none⟩) (n := n1) (c := n1) (xs := xs1) (by (repeat (first | (with_reducible assumption) | (with_reducible refine OF.draw ?_) | (with_reducible exact OF.made' (by simp) (by simp) (by omega)) | (with_reducible refine OF.alloc ?_ _) | ((with_reducible refine OF.setCell ?_ ?_ _); rotate_left; (first | omega | (simp <;> omega)))))) hb3 (Nat.le_refl _)
  have of2_3 := OF.below (g := g2) (a := some ⟨g2, 0, none⟩) (n := n2) (c := n2) (xs := xs2) (by (repeat (first | (with_reducible assumption) | (with_reducible refine OF.draw ?_) | (with_reducible exact OF.made' (by simp) (by simp) (by omega)) | (with_reducible refine OF.alloc ?_ _) | ((with_reducible refine OF.setCell ?_ ?_ _); rotate_left; (first | omega | (simp <;> omega)))))) hb3 (Nat.le_refl _)
  have L1_3 : g1 < w3.heap.size := by first | assumption | omega
  have L2_3 : g2 < w3.heap.size := by first | assumption | omega
  go_wp2_with fail
  refine (c_toFilter _ _ _ _ _ _ _).mono ?_
  rintro e w4 ⟨rfl, hb4⟩
  obtain ⟨hc4, hf4, hz4⟩ := bcell hb4
  try simp at hz4
  have zb4 : w.heap.size ≤ w4.heap.size := by omega
  try (have z4_0 : w.heap.size < w4.heap.size := by omega)
  try (have z4_1 : w.heap.size + 1 < w4.heap.size := by omega)
  try (have z4_2 : w.heap.size + 1 + 1 < w4.heap.size := by omega)
  try (have z4_3 : w.heap.size + 1 + 1 + 1 < w4.heap.size := by omega)
  have b4 : Below w.heap.size w w4 := Below.trans (by (repeat (first | (with_reducible refine Below.drewN ?_) | (with_reducible refine Below.drew ?_) | ((with_reducible refine Below.alloc ?_ ?_ _); rotate_left; (first | omega | (simp <;> omega))) | ((with_reducible refine Below.setCell ?_ ?_ _); rotate_left; (first | omega | (simp <;> omega))) | (with_reducible exact Below.refl _ _) | (with_reducible assumption)))) (hb4.mono (by first | omega | (simp <;> omega)))
  have of1_4 := OF.below (g := g1) (a := some ⟨g1, 0, none⟩) (n := n1) (c := n1) (xs := xs1) (by (repeat (first | (with_reducible assumption) | (with_reducible refine OF.draw ?_) | (with_reducible exact OF.made' (by simp) (by simp) (by omega)) | (with_reducible refine OF.alloc ?_ _) | ((with_reducible refine OF.setCell ?_ ?_ _); rotate_left; (first | omega | (simp <;> omega)))))) hb4 (Nat.le_refl _)
  have of2_4 := OF.below (g := g2) (a := some ⟨g2, 0, none⟩) (n := n2) (c := n2) (xs := xs2) (by (repeat (first | (with_reducible assumption) | (with_reducible refine OF.draw ?_) | (with_reducible exact OF.made' (by simp) (by simp) (by omega)) | (with_reducible refine OF.alloc ?_ _) | ((with_reducible refine OF.setCell ?_ ?_ _); rotate_left; (first | omega | (simp <;> omega)))))) hb4 (Nat.le_refl _)
  have L1_4 : g1 < w4.heap.size := by first | assumption | omega
  have L2_4 : g2 < w4.heap.size := by first | assumption | omega
  go_upto_region 8 with fail
  refine wp_named ?_
  intro W hW
  have BW : Below w.heap.size w W := by rw [hW]; (repeat (first | (with_reducible refine Below.drewN ?_) | (with_reducible refine Below.drew ?_) | ((with_reducible refine Below.alloc ?_ ?_ _); rotate_left; (first | omega | (simp <;> omega))) | ((with_reducible refine Below.setCell ?_ ?_ _); rotate_left; (first | omega | (simp <;> omega))) | (with_reducible exact Below.refl _ _) | (with_reducible assumption)))
  have F0 : W.cell? ⟨w.heap.size + 1 + 1, 0, none⟩ = some (.slice (some ⟨g1, 0, none⟩) n1 n1) := by rw [hW]; simp [go_sem, *]
  have F1 : W.cell? ⟨w.heap.size + 1 + 1, 1, none⟩ = some (.int .i64 i1) := by rw [hW]; simp [go_sem, *]
  have F2 : W.cell? ⟨w.heap.size + 1 + 1, 2, none⟩ = some (.slice (some ⟨g2, 0, none⟩) n2 n2) := by rw [hW]; simp [go_sem, *]
  have F3 : W.cell? ⟨w.heap.size + 1 + 1, 3, none⟩ = some (.int .i64 i2) := by rw [hW]; simp [go_sem, *]
  have F4 : W.cell? ⟨w.heap.size + 1 + 1, 4, none⟩ = some (.int .i64 k1) := by rw [hW]; simp [go_sem, *]
  have F5 : W.cell? ⟨w.heap.size + 1 + 1, 5, none⟩ = some (.float .f32 f1_0) := by rw [hW]; simp [go_sem, *]
  have F6 : W.cell? ⟨w.heap.size + 1 + 1, 6, none⟩ = some (.float .f32 f1_1) := by rw [hW]; simp [go_sem, *]
  have F7 : W.cell? ⟨w.heap.size + 1 + 1, 7, none⟩ = some (.float .f32 f1_2) := by rw [hW]; simp [go_sem, *]
  have F8 : W.cell? ⟨w.heap.size + 1 + 1, 8, none⟩ = some (.float .f32 f1_3) := by rw [hW]; simp [go_sem, *]
  have F9 : W.cell? ⟨w.heap.size + 1 + 1, 9, none⟩ = some (.float .f32 f1_4) := by rw [hW]; simp [go_sem, *]
  have F10 : W.cell? ⟨w.heap.size + 1 + 1, 10, none⟩ = some (.int .i64 k2) := by rw [hW]; simp [go_sem, *]
  have F11 : W.cell? ⟨w.heap.size + 1 + 1, 11, none⟩ = some (.float .f32 f2_0) := by rw [hW]; simp [go_sem, *]
  have F12 : W.cell? ⟨w.heap.size + 1 + 1, 12, none⟩ = some (.float .f32 f2_1) := by rw [hW]; simp [go_sem, *]
  have F13 : W.cell? ⟨w.heap.size + 1 + 1, 13, none⟩ = some (.float .f32 f2_2) := by rw [hW]; simp [go_sem, *]
  have F14 : W.cell? ⟨w.heap.size + 1 + 1, 14, none⟩ = some (.float .f32 f2_3) := by rw [hW]; simp [go_sem, *]
  have F15 : W.cell? ⟨w.heap.size + 1 + 1, 15, none⟩ = some (.float .f32 f2_4) := by rw [hW]; simp [go_sem, *]
  have F16 : W.cell? ⟨w.heap.size + 1 + 1, 16, none⟩ = some (.float .f32 x1) := by rw [hW]; simp [go_sem, *]
  have F17 : W.cell? ⟨w.heap.size + 1 + 1, 17, none⟩ = some (.float .f32 x2) := by rw [hW]; simp [go_sem, *]
  have Z0 : W.cell? ⟨w.heap.size + 1, 0, none⟩ = some (.slice none 0 0) := by rw [hW]; simp [go_sem, *]
  have Z1 : W.cell? ⟨w.heap.size + 1, 1, none⟩ = some (.int .i64 0) := by rw [hW]; simp [go_sem, *]
  have Z2 : W.cell? ⟨w.heap.size + 1, 2, none⟩ = some (.slice none 0 0) := by rw [hW]; simp [go_sem, *]
  have Z3 : W.cell? ⟨w.heap.size + 1, 3, none⟩ = some (.int .i64 0) := by rw [hW]; simp [go_sem, *]
  have Z4 : W.cell? ⟨w.heap.size + 1, 4, none⟩ = some (.int .i64 0) := by rw [hW]; simp [go_sem, *]
  have Z5 : W.cell? ⟨w.heap.size + 1, 5, none⟩ = some (.float .f32 0) := by rw [hW]; simp [go_sem, *]
  have Z6 : W.cell? ⟨w.heap.size + 1, 6, none⟩ = some (.float .f32 0) := by rw [hW]; simp [go_sem, *]
  have Z7 : W.cell? ⟨w.heap.size + 1, 7, none⟩ = some (.float .f32 0) := by rw [hW]; simp [go_sem, *]
  have Z8 : W.cell? ⟨w.heap.size + 1, 8, none⟩ = some (.float .f32 0) := by rw [hW]; simp [go_sem, *]
  have Z9 : W.cell? ⟨w.heap.size + 1, 9, none⟩ = some (.float .f32 0) := by rw [hW]; simp [go_sem, *]
  have Z10 : W.cell? ⟨w.heap.size + 1, 10, none⟩ = some (.int .i64 0) := by rw [hW]; simp [go_sem, *]
  have Z11 : W.cell? ⟨w.heap.size + 1, 11, none⟩ = some (.float .f32 0) := by rw [hW]; simp [go_sem, *]
  have Z12 : W.cell? ⟨w.heap.size + 1, 12, none⟩ = some (.float .f32 0) := by rw [hW]; simp [go_sem, *]
  have Z13 : W.cell? ⟨w.heap.size + 1, 13, none⟩ = some (.float .f32 0) := by rw [hW]; simp [go_sem, *]
  have Z14 : W.cell? ⟨w.heap.size + 1, 14, none⟩ = some (.float .f32 0) := by rw [hW]; simp [go_sem, *]
  have Z15 : W.cell? ⟨w.heap.size + 1, 15, none⟩ = some (.float .f32 0) := by rw [hW]; simp [go_sem, *]
  have Z16 : W.cell? ⟨w.heap.size + 1, 16, none⟩ = some (.float .f32 0) := by rw [hW]; simp [go_sem, *]
  have Z17 : W.cell? ⟨w.heap.size + 1, 17, none⟩ = some (.float .f32 0) := by rw [hW]; simp [go_sem, *]
  have FR : ∀ o, W.frozen? ⟨w.heap.size + 1, o, none⟩ = false := by intro o; rw [hW]; simp [go_sem, *]; try rfl
  have oW1 : OF W g1 (some ⟨g1, 0, none⟩) n1 n1 xs1 := by rw [hW]; (repeat (first | (with_reducible assumption) | (with_reducible refine OF.draw ?_) | (with_reducible exact OF.made' (by simp) (by simp) (by omega)) | (with_reducible refine OF.alloc ?_ _) | ((with_reducible refine OF.setCell ?_ ?_ _); rotate_left; (first | omega | (simp <;> omega)))))
  have LW1 : g1 < W.heap.size := by rw [hW]; simp only [World.size_setCell]; omega
  have oW2 : OF W g2 (some ⟨g2, 0, none⟩) n2 n2 xs2 := by rw [hW]; (repeat (first | (with_reducible assumption) | (with_reducible refine OF.draw ?_) | (with_reducible exact OF.made' (by simp) (by simp) (by omega)) | (with_reducible refine OF.alloc ?_ _) | ((with_reducible refine OF.setCell ?_ ?_ _); rotate_left; (first | omega | (simp <;> omega)))))
  have LW2 : g2 < W.heap.size := by rw [hW]; simp only [World.size_setCell]; omega
  clear hW
  have TH : W.there (w.heap.size + 1) 0 18 := there_of (vs := [.slice none 0 0, .int .i64 0, .slice none 0 0, .int .i64 0, .int .i64 0, .float .f32 0, .float .f32 0, .float .f32 0, .float .f32 0, .float .f32 0, .int .i64 0, .float .f32 0, .float .f32 0, .float .f32 0, .float .f32 0, .float .f32 0, .float .f32 0, .float .f32 0]) (range_cons Z0 (range_cons Z1 (range_cons Z2 (range_cons Z3 (range_cons Z4 (range_cons Z5 (range_cons Z6 (range_cons Z7 (range_cons Z8 (range_cons Z9 (range_cons Z10 (range_cons Z11 (range_cons Z12 (range_cons Z13 (range_cons Z14 (range_cons Z15 (range_cons Z16 (range_cons Z17 (range_nil _ _ _))))))))))))))))))) FR
  have RG : W.rangeAt (w.heap.size + 1 + 1) 0 [.slice (some ⟨g1, 0, none⟩) n1 n1, .int .i64 i1, .slice (some ⟨g2, 0, none⟩) n2 n2, .int .i64 i2, .int .i64 k1, .float .f32 f1_0, .float .f32 f1_1, .float .f32 f1_2, .float .f32 f1_3, .float .f32 f1_4, .int .i64 k2, .float .f32 f2_0, .float .f32 f2_1, .float .f32 f2_2, .float .f32 f2_3, .float .f32 f2_4, .float .f32 x1, .float .f32 x2] := range_cons F0 (range_cons F1 (range_cons F2 (range_cons F3 (range_cons F4 (range_cons F5 (range_cons F6 (range_cons F7 (range_cons F8 (range_cons F9 (range_cons F10 (range_cons F11 (range_cons F12 (range_cons F13 (range_cons F14 (range_cons F15 (range_cons F16 (range_cons F17 (range_nil _ _ _))))))))))))))))))
  have hR := Lib.hid (run_loadVar_mid (P := Tryd.prog) (W.setCells (w.heap.size + 1) 0 [.slice (some ⟨g1, 0, none⟩) n1 n1, .int .i64 i1, .slice (some ⟨g2, 0, none⟩) n2 n2, .int .i64 i2, .int .i64 k1, .float .f32 f1_0, .float .f32 f1_1, .float .f32 f1_2, .float .f32 f1_3, .float .f32 f1_4, .int .i64 k2, .float .f32 f2_0, .float .f32 f2_1, .float .f32 f2_2, .float .f32 f2_3, .float .f32 f2_4, .float .f32 x1, .float .f32 x2]) (w.heap.size + 1) 0 46 [.slice (some ⟨g1, 0, none⟩) n1 n1, .int .i64 i1, .slice (some ⟨g2, 0, none⟩) n2 n2, .int .i64 i2, .int .i64 k1, .float .f32 f1_0, .float .f32 f1_1, .float .f32 f1_2, .float .f32 f1_3, .float .f32 f1_4, .int .i64 k2, .float .f32 f2_0, .float .f32 f2_1, .float .f32 f2_2, .float .f32 f2_3, .float .f32 f2_4, .float .f32 x1, .float .f32 x2] _ (World.rangeAt_setCells_same _ _ _ _ TH) Tryd.underlying46 rfl (by kernel_rfl))
  clear F0 F1 F2 F3 F4 F5 F6 F7 F8 F9 F10 F11 F12 F13 F14 F15 F16 F17 Z0 Z1 Z2 Z3 Z4 Z5 Z6 Z7 Z8 Z9 Z10 Z11 Z12 Z13 Z14 Z15 Z16 Z17 FR
  have WR := wr_setCells (w.heap.size + 1) [.slice (some ⟨g1, 0, none⟩) n1 n1, .int .i64 i1, .slice (some ⟨g2, 0, none⟩) n2 n2, .int .i64 i2, .int .i64 k1, .float .f32 f1_0, .float .f32 f1_1, .float .f32 f1_2, .float .f32 f1_3, .float .f32 f1_4, .int .i64 k2, .float .f32 f2_0, .float .f32 f2_1, .float .f32 f2_2, .float .f32 f2_3, .float .f32 f2_4, .float .f32 x1, .float .f32 x2] 0 W
  refine wp_region_lit ?_
  refine wpList_load_mid rfl 46 _ rfl (w.heap.size + 1 + 1) 0 rfl [.slice (some ⟨g1, 0, none⟩) n1 n1, .int .i64 i1, .slice (some ⟨g2, 0, none⟩) n2 n2, .int .i64 i2, .int .i64 k1, .float .f32 f1_0, .float .f32 f1_1, .float .f32 f1_2, .float .f32 f1_3, .float .f32 f1_4, .int .i64 k2, .float .f32 f2_0, .float .f32 f2_1, .float .f32 f2_2, .float .f32 f2_3, .float .f32 f2_4, .float .f32 x1, .float .f32 x2] _ RG Tryd.underlying46 rfl (by kernel_rfl) ?_
  refine wpList_store_mid rfl 46 _ _ rfl (w.heap.size + 1) 0 #[.slice (some ⟨g1, 0, none⟩) n1 n1, .int .i64 i1, .slice (some ⟨g2, 0, none⟩) n2 n2, .int .i64 i2, .int .i64 k1, .float .f32 f1_0, .float .f32 f1_1, .float .f32 f1_2, .float .f32 f1_3, .float .f32 f1_4, .int .i64 k2, .float .f32 f2_0, .float .f32 f2_1, .float .f32 f2_2, .float .f32 f2_3, .float .f32 f2_4, .float .f32 x1, .float .f32 x2] rfl rfl TH (by kernel_rfl) (by simp [Value.oneCell']) ?_
  go_wp2
  refine bodyPost_ret (v := .agg #[.slice (some ⟨g1, 0, none⟩) n1 n1, .int .i64 i1, .slice (some ⟨g2, 0, none⟩) n2 n2, .int .i64 i2, .int .i64 k1, .float .f32 f1_0, .float .f32 f1_1, .float .f32 f1_2, .float .f32 f1_3, .float .f32 f1_4, .int .i64 k2, .float .f32 f2_0, .float .f32 f2_1, .float .f32 f2_2, .float .f32 f2_3, .float .f32 f2_4, .float .f32 x1, .float .f32 x2]) (results_cell Tryd.results13 rfl hR.out) rfl ?_
  refine ⟨g1, g2, rfl, BW.trans (WR.below (by have := BW.size; omega) (by simp)), by omega, by omega, Nat.lt_of_lt_of_le LW2 WR.size, oW1.wr WR (by simp; omega), oW2.wr WR (by simp; omega)⟩
theorem c_eqJet' (a1 d1 : Option Addr) (n1 c1 e1 : Nat) (xs1 ys1 : List Nat) (i1 : Int) (a2 d2 : Option Addr) (n2 c2 e2 : Nat) (xs2 ys2 : List Nat) (i2 : Int) (k1 : Int) (f1_0 r1_0 f1_1 r1_1 f1_2 r1_2 f1_3 r1_3 f1_4 r1_4 : Nat) (k2 : Int) (f2_0 r2_0 f2_1 r2_1 f2_2 r2_2 f2_3 r2_3 f2_4 r2_4 : Nat) (x1 y1 : Nat) (x2 y2 : Nat) (w : World) (h1 : FS w a1 n1 c1 xs1) (j1 : FS w d1 n1 e1 ys1) (l1 : Alk xs1 ys1) (h2 : FS w a2 n2 c2 xs2) (j2 : FS w d2 n2 e2 ys2) (l2 : Alk xs2 ys2) (u1 : up r1_0 = up f1_0 ∧ up r1_1 = up f1_1 ∧ up r1_2 = up f1_2 ∧ up r1_3 = up f1_3 ∧ up r1_4 = up f1_4) (u2 : up r2_0 = up f2_0 ∧ up r2_1 = up f2_1 ∧ up r2_2 = up f2_2 ∧ up r2_3 = up f2_3 ∧ up r2_4 = up f2_4) (v1 : up y1 = up x1) (v2 : up y2 = up x2) :
    Calls Tryd.prog 15 #[.agg #[.slice a1 n1 c1, .int .i64 i1, .slice a2 n2 c2, .int .i64 i2, .int .i64 k1, .float .f32 f1_0, .float .f32 f1_1, .float .f32 f1_2, .float .f32 f1_3, .float .f32 f1_4, .int .i64 k2, .float .f32 f2_0, .float .f32 f2_1, .float .f32 f2_2, .float .f32 f2_3, .float .f32 f2_4, .float .f32 x1, .float .f32 x2], .agg #[.slice d1 n1 e1, .int .i64 i1, .slice d2 n2 e2, .int .i64 i2, .int .i64 k1, .float .f32 r1_0, .float .f32 r1_1, .float .f32 r1_2, .float .f32 r1_3, .float .f32 r1_4, .int .i64 k2, .float .f32 r2_0, .float .f32 r2_1, .float .f32 r2_2, .float .f32 r2_3, .float .f32 r2_4, .float .f32 y1, .float .f32 y2]] w (RetV (.bool true) w) := by
  have H1 := Lib.hid h1
  have J1 := Lib.hid j1
  have L1 := Lib.hid l1
  clear h1 j1 l1
  have H2 := Lib.hid h2
  have J2 := Lib.hid j2
  have L2 := Lib.hid l2
  clear h2 j2 l2
  have U1 := Lib.hid u1
  clear u1
  have U2 := Lib.hid u2
  clear u2
  go_enter Tryd.func15, Tryd.ntmps15
  go_wp2_with (go_at_call 32; refine (c_sameFloat _ _ _ _).mono ?_; rintro e w' ⟨rfl, n3, rfl⟩)
  refine (c_eqRing' _ _ _ _ _ _ _ _ _ (FS.below (B := w.heap.size) H1.out (by (repeat (first | (with_reducible refine Below.drewN ?_) | (with_reducible refine Below.drew ?_) | ((with_reducible refine Below.alloc ?_ ?_ _); rotate_left; (first | omega | (simp <;> omega))) | ((with_reducible refine Below.setCell ?_ ?_ _); rotate_left; (first | omega | (simp <;> omega))) | (with_reducible exact Below.refl _ _) | (with_reducible assumption)))) (Nat.le_refl _)) (FS.below (B := w.heap.size) J1.out (by (repeat (first | (with_reducible refine Below.drewN ?_) | (with_reducible refine Below.drew ?_) | ((with_reducible refine Below.alloc ?_ ?_ _); rotate_left; (first | omega | (simp <;> omega))) | ((with_reducible refine Below.setCell ?_ ?_ _); rotate_left; (first | omega | (simp <;> omega))) | (with_reducible exact Below.refl _ _) | (with_reducible assumption)))) (Nat.le_refl _)) L1.out).mono ?_
  rintro e w1 ⟨rfl, hb1⟩
  obtain ⟨hc1, hf1, hz1⟩ := bcell hb1
  try simp at hz1
  have zb1 : w.heap.size ≤ w1.heap.size := by omega
  try (have z1_0 : w.heap.size < w1.heap.size := by omega)
  try (have z1_1 : w.heap.size + 1 < w1.heap.size := by omega)
  try (have z1_2 : w.heap.size + 1 + 1 < w1.heap.size := by omega)
  try (have z1_3 : w.heap.size + 1 + 1 + 1 < w1.heap.size := by omega)
  have b1 : Below w.heap.size w w1 := Below.trans (by (repeat (first | (with_reducible refine Below.drewN ?_) | (with_reducible refine Below.drew ?_) | ((with_reducible refine Below.alloc ?_ ?_ _); rotate_left; (first | omega | (simp <;> omega))) | ((with_reducible refine Below.setCell ?_ ?_ _); rotate_left; (first | omega | (simp <;> omega))) | (with_reducible exact Below.refl _ _) | (with_reducible assumption)))) (hb1.mono (by first | omega | (simp <;> omega)))
  go_wp2_with (go_at_call 32; refine (c_sameFloat _ _ _ _).mono ?_; rintro e w' ⟨rfl, n3, rfl⟩)
  refine (c_eqRing' _ _ _ _ _ _ _ _ _ (FS.below (B := w.heap.size) H2.out (by (repeat (first | (with_reducible refine Below.drewN ?_) | (with_reducible refine Below.drew ?_) | ((with_reducible refine Below.alloc ?_ ?_ _); rotate_left; (first | omega | (simp <;> omega))) | ((with_reducible refine Below.setCell ?_ ?_ _); rotate_left; (first | omega | (simp <;> omega))) | (with_reducible exact Below.refl _ _) | (with_reducible assumption)))) (Nat.le_refl _)) (FS.below (B := w.heap.size) J2.out (by (repeat (first | (with_reducible refine Below.drewN ?_) | (with_reducible refine Below.drew ?_) | ((with_reducible refine Below.alloc ?_ ?_ _); rotate_left; (first | omega | (simp <;> omega))) | ((with_reducible refine Below.setCell ?_ ?_ _); rotate_left; (first | omega | (simp <;> omega))) | (with_reducible exact Below.refl _ _) | (with_reducible assumption)))) (Nat.le_refl _)) L2.out).mono ?_
  rintro e w2 ⟨rfl, hb2⟩
  obtain ⟨hc2, hf2, hz2⟩ := bcell hb2
  try simp at hz2
  have zb2 : w.heap.size ≤ w2.heap.size := by omega
  try (have z2_0 : w.heap.size < w2.heap.size := by omega)
  try (have z2_1 : w.heap.size + 1 < w2.heap.size := by omega)
  try (have z2_2 : w.heap.size + 1 + 1 < w2.heap.size := by omega)
  try (have z2_3 : w.heap.size + 1 + 1 + 1 < w2.heap.size := by omega)
  have b2 : Below w.heap.size w w2 := Below.trans (by (repeat (first | (with_reducible refine Below.drewN ?_) | (with_reducible refine Below.drew ?_) | ((with_reducible refine Below.alloc ?_ ?_ _); rotate_left; (first | omega | (simp <;> omega))) | ((with_reducible refine Below.setCell ?_ ?_ _); rotate_left; (first | omega | (simp <;> omega))) | (with_reducible exact Below.refl _ _) | (with_reducible assumption)))) (hb2.mono (by first | omega | (simp <;> omega)))
  go_wp2_with (go_at_call 32; refine (c_sameFloat _ _ _ _).mono ?_; rintro e w' ⟨rfl, n3, rfl⟩)
  refine (c_eqFilter _ _ _ _ _ _ _ _ _ _ _ _ U1.out).mono ?_
  rintro e w3 ⟨rfl, hb3⟩
  obtain ⟨hc3, hf3, hz3⟩ := bcell hb3
  try simp at hz3
  have zb3 : w.heap.size ≤ w3.heap.size := by omega
  try (have z3_0 : w.heap.size < w3.heap.size := by omega)
  try (have z3_1 : w.heap.size + 1 < w3.heap.size := by omega)
  try (have z3_2 : w.heap.size + 1 + 1 < w3.heap.size := by omega)
  try (have z3_3 : w.heap.size + 1 + 1 + 1 < w3.heap.size := by omega)
  have b3 : Below w.heap.size w w3 := Below.trans (by (repeat (first | (with_reducible refine Below.drewN ?_) | (with_reducible refine Below.drew ?_) | ((with_reducible refine Below.alloc ?_ ?_ _); rotate_left; (first | omega | (simp <;> omega))) | ((with_reducible refine Below.setCell ?_ ?_ _); rotate_left; (first | omega | (simp <;> omega))) | (with_reducible exact Below.refl _ _) | (with_reducible assumption)))) (hb3.mono (by first | omega | (simp <;> omega)))
  go_wp2_with (go_at_call 32; refine (c_sameFloat _ _ _ _).mono ?_; rintro e w' ⟨rfl, n3, rfl⟩)
  refine (c_eqFilter _ _ _ _ _ _ _ _ _ _ _ _ U2.out).mono ?_
  rintro e w4 ⟨rfl, hb4⟩
  obtain ⟨hc4, hf4, hz4⟩ := bcell hb4
  try simp at hz4
  have zb4 : w.heap.size ≤ w4.heap.size := by omega
  try (have z4_0 : w.heap.size < w4.heap.size := by omega)
  try (have z4_1 : w.heap.size + 1 < w4.heap.size := by omega)
  try (have z4_2 : w.heap.size + 1 + 1 < w4.heap.size := by omega)
  try (have z4_3 : w.heap.size + 1 + 1 + 1 < w4.heap.size := by omega)
  have b4 : Below w.heap.size w w4 := Below.trans (by (repeat (first | (with_reducible refine Below.drewN ?_) | (with_reducible refine Below.drew ?_) | ((with_reducible refine Below.alloc ?_ ?_ _); rotate_left; (first | omega | (simp <;> omega))) | ((with_reducible refine Below.setCell ?_ ?_ _); rotate_left; (first | omega | (simp <;> omega))) | (with_reducible exact Below.refl _ _) | (with_reducible assumption)))) (hb4.mono (by first | omega | (simp <;> omega)))
  go_wp2_with (go_at_call 32; refine (c_sameFloat _ _ _ _).mono ?_; rintro e w' ⟨rfl, n3, rfl⟩)
  go_ret
  exact ⟨rfl, by (repeat (first | (with_reducible refine Below.drewN ?_) | (with_reducible refine Below.drew ?_) | ((with_reducible refine Below.alloc ?_ ?_ _); rotate_left; (first | omega | (simp <;> omega))) | ((with_reducible refine Below.setCell ?_ ?_ _); rotate_left; (first | omega | (simp <;> omega))) | (with_reducible exact Below.refl _ _) | (with_reducible assumption)))⟩
def NewJet (n1 : Nat) (xs1 : List Nat) (i1 : Int) (n2 : Nat) (xs2 : List Nat) (i2 : Int) (k1 : Int) (f1_0 f1_1 f1_2 f1_3 f1_4 : Nat) (k2 : Int) (f2_0 f2_1 f2_2 f2_3 f2_4 : Nat) (x1 : Nat) (x2 : Nat) (code : Int) (w : World) (e : Ending) (w' : World) : Prop :=
  ∃ (a1 a2 : Option Addr) (c1 c2 g1 g2 t_f1_0 t_f1_1 t_f1_2 t_f1_3 t_f1_4 t_f2_0 t_f2_1 t_f2_2 t_f2_3 t_f2_4 t_x1 t_x2 : Nat), e = .returned (.tuple #[.agg #[.slice a1 n1 c1, .int .i64 i1, .slice a2 n2 c2, .int .i64 i2, .int .i64 k1, .float .f32 (nv .f32 f1_0 t_f1_0), .float .f32 (nv .f32 f1_1 t_f1_1), .float .f32 (nv .f32 f1_2 t_f1_2), .float .f32 (nv .f32 f1_3 t_f1_3), .float .f32 (nv .f32 f1_4 t_f1_4), .int .i64 k2, .float .f32 (nv .f32 f2_0 t_f2_0), .float .f32 (nv .f32 f2_1 t_f2_1), .float .f32 (nv .f32 f2_2 t_f2_2), .float .f32 (nv .f32 f2_3 t_f2_3), .float .f32 (nv .f32 f2_4 t_f2_4), .float .f32 (nv .f32 x1 t_x1), .float .f32 (nv .f32 x2 t_x2)], .int .i64 code]) ∧ Below w.heap.size w w' ∧ (0 < n1 → w.heap.size ≤ g1 ∧ g1 < w'.heap.size) ∧ (0 < n2 → w.heap.size ≤ g2 ∧ g2 < w'.heap.size) ∧ g1 ≠ g2 ∧ OF w' g1 a1 n1 c1 xs1 ∧ OF w' g2 a2 n2 c2 xs2


end Go.Proofs.YtbdanadmabemdaaDoor
