
/-
Contracts of the laws' own helpers over bows.
-/
import Derived.Test.YtbdanadmabemdaaDoorFe
namespace Go.Proofs.YtbdanadmabemdaaDoor
open Go Go.RowKit Fl
theorem c_szBow_ok (a1 : Option Addr) (n1 c1 : Nat) (i1 : Int) (a2 : Option Addr) (n2 c2 : Nat) (i2 : Int) (k1 : Int) (f1_0 f1_1 f1_2 f1_3 f1_4 : Nat) (x1 : Nat) (x2 : Nat) (left : Int) (w : World) (h0 : 0 ≤ left) (h1 : left ≤ 1048576) (m1 : n1 ≤ 9223372036854775807) (m2 : n2 ≤ 9223372036854775807) (h : (n1 : Int) + (n2 : Int) ≤ left) :
    Calls Tryd.prog 6 #[.agg #[.slice a1 n1 c1, .int .i64 i1, .slice a2 n2 c2, .int .i64 i2, .int .i64 k1, .float .f32 f1_0, .float .f32 f1_1, .float .f32 f1_2, .float .f32 f1_3, .float .f32 f1_4, .float .f32 x1, .float .f32 x2], .int .i64 left] w (RetV (.int .i64 (left - n1 - n2)) w) := by
  go_enter Tryd.func6, Tryd.ntmps6
  go_wp2_with fail
  refine (c_szRing_ok a1 n1 c1 i1 (left) _ (by omega) (by omega) m1 (by omega)).mono ?_
  rintro e w1 ⟨rfl, hb1⟩
  obtain ⟨hc1, hf1, hz1⟩ := bcell hb1
  have g1 : ¬ (left - n1) < 0 := by omega
  try simp at hz1
  have zb1 : w.heap.size ≤ w1.heap.size := by omega
  try (have z1_0 : w.heap.size < w1.heap.size := by omega)
  try (have z1_1 : w.heap.size + 1 < w1.heap.size := by omega)
  try (have z1_2 : w.heap.size + 1 + 1 < w1.heap.size := by omega)
  try (have z1_3 : w.heap.size + 1 + 1 + 1 < w1.heap.size := by omega)
  go_wp2_with fail
  refine (c_szRing_ok a2 n2 c2 i2 (left - n1) _ (by omega) (by omega) m2 (by omega)).mono ?_
  rintro e w2 ⟨rfl, hb2⟩
  obtain ⟨hc2, hf2, hz2⟩ := bcell hb2
  have g2 : ¬ (left - n1 - n2) < 0 := by omega
  try simp at hz2
  have zb2 : w.heap.size ≤ w2.heap.size := by omega
  try (have z2_0 : w.heap.size < w2.heap.size := by omega)
  try (have z2_1 : w.heap.size + 1 < w2.heap.size := by omega)
  try (have z2_2 : w.heap.size + 1 + 1 < w2.heap.size := by omega)
  try (have z2_3 : w.heap.size + 1 + 1 + 1 < w2.heap.size := by omega)
  go_wp2
  go_ret
  have b1 : Below w.heap.size w w1 := Below.trans (by (repeat (first | (with_reducible refine Below.drewN ?_) | (with_reducible refine Below.drew ?_) | ((with_reducible refine Below.alloc ?_ ?_ _); rotate_left; (first | omega | (simp <;> omega))) | ((with_reducible refine Below.setCell ?_ ?_ _); rotate_left; (first | omega | (simp <;> omega))) | (with_reducible exact Below.refl _ _) | (with_reducible assumption)))) (hb1.mono (by first | omega | (simp <;> omega)))
  have b2 : Below w.heap.size w w2 := b1.trans (hb2.mono (by omega))
  exact ⟨rfl, b2⟩
theorem c_szBow_no (a1 : Option Addr) (n1 c1 : Nat) (i1 : Int) (a2 : Option Addr) (n2 c2 : Nat) (i2 : Int) (k1 : Int) (f1_0 f1_1 f1_2 f1_3 f1_4 : Nat) (x1 : Nat) (x2 : Nat) (left : Int) (w : World) (h0 : 0 ≤ left) (h1 : left ≤ 1048576) (m1 : n1 ≤ 9223372036854775807) (m2 : n2 ≤ 9223372036854775807) (h : left < (n1 : Int) + (n2 : Int)) :
    Calls Tryd.prog 6 #[.agg #[.slice a1 n1 c1, .int .i64 i1, .slice a2 n2 c2, .int .i64 i2, .int .i64 k1, .float .f32 f1_0, .float .f32 f1_1, .float .f32 f1_2, .float .f32 f1_3, .float .f32 f1_4, .float .f32 x1, .float .f32 x2], .int .i64 left] w (RetV (.int .i64 (-1)) w) := by
  by_cases q1 : left < (n1 : Int)
  · go_enter Tryd.func6, Tryd.ntmps6
    go_wp2_with fail
    refine (c_szRing_no a1 n1 c1 i1 (left) _ (by omega) (by omega) m1 (by omega)).mono ?_
    rintro e w1 ⟨rfl, hb1⟩
    obtain ⟨hc1, hf1, hz1⟩ := bcell hb1
    go_wp2
    go_ret
    have b1 : Below w.heap.size w w1 := Below.trans (by (repeat (first | (with_reducible refine Below.drewN ?_) | (with_reducible refine Below.drew ?_) | ((with_reducible refine Below.alloc ?_ ?_ _); rotate_left; (first | omega | (simp <;> omega))) | ((with_reducible refine Below.setCell ?_ ?_ _); rotate_left; (first | omega | (simp <;> omega))) | (with_reducible exact Below.refl _ _) | (with_reducible assumption)))) (hb1.mono (by first | omega | (simp <;> omega)))
    exact ⟨rfl, b1⟩
  go_enter Tryd.func6, Tryd.ntmps6
  go_wp2_with fail
  refine (c_szRing_ok a1 n1 c1 i1 (left) _ (by omega) (by omega) m1 (by omega)).mono ?_
  rintro e w1 ⟨rfl, hb1⟩
  obtain ⟨hc1, hf1, hz1⟩ := bcell hb1
  have g1 : ¬ (left - n1) < 0 := by omega
  try simp at hz1
  have zb1 : w.heap.size ≤ w1.heap.size := by omega
  try (have z1_0 : w.heap.size < w1.heap.size := by omega)
  try (have z1_1 : w.heap.size + 1 < w1.heap.size := by omega)
  try (have z1_2 : w.heap.size + 1 + 1 < w1.heap.size := by omega)
  try (have z1_3 : w.heap.size + 1 + 1 + 1 < w1.heap.size := by omega)
  go_wp2_with fail
  refine (c_szRing_no a2 n2 c2 i2 (left - n1) _ (by omega) (by omega) m2 (by omega)).mono ?_
  rintro e w2 ⟨rfl, hb2⟩
  obtain ⟨hc2, hf2, hz2⟩ := bcell hb2
  go_wp2
  go_ret
  have b1 : Below w.heap.size w w1 := Below.trans (by (repeat (first | (with_reducible refine Below.drewN ?_) | (with_reducible refine Below.drew ?_) | ((with_reducible refine Below.alloc ?_ ?_ _); rotate_left; (first | omega | (simp <;> omega))) | ((with_reducible refine Below.setCell ?_ ?_ _); rotate_left; (first | omega | (simp <;> omega))) | (with_reducible exact Below.refl _ _) | (with_reducible assumption)))) (hb1.mono (by first | omega | (simp <;> omega)))
  have b2 : Below w.heap.size w w2 := b1.trans (hb2.mono (by omega))
  exact ⟨rfl, b2⟩
theorem c_toBow' (a1 : Option Addr) (n1 c1 : Nat) (xs1 : List Nat) (i1 : Int) (a2 : Option Addr) (n2 c2 : Nat) (xs2 : List Nat) (i2 : Int) (k1 : Int) (f1_0 f1_1 f1_2 f1_3 f1_4 : Nat) (x1 : Nat) (x2 : Nat) (w : World) (h1 : FS w a1 n1 c1 xs1) (m1 : n1 ≤ 1048576) (h2 : FS w a2 n2 c2 xs2) (m2 : n2 ≤ 1048576) :
    Calls Tryd.prog 8 #[.agg #[.slice a1 n1 c1, .int .i64 i1, .slice a2 n2 c2, .int .i64 i2, .int .i64 k1, .float .f32 f1_0, .float .f32 f1_1, .float .f32 f1_2, .float .f32 f1_3, .float .f32 f1_4, .float .f32 x1, .float .f32 x2]] w (fun e w' => ∃ g1 g2, e = .returned (.agg #[.slice (some ⟨g1, 0, none⟩) n1 n1, .int .i64 i1, .slice (some ⟨g2, 0, none⟩) n2 n2, .int .i64 i2, .int .i64 k1, .float .f32 f1_0, .float .f32 f1_1, .float .f32 f1_2, .float .f32 f1_3, .float .f32 f1_4, .float .f32 x1, .float .f32 x2]) ∧ Below w.heap.size w w' ∧ w.heap.size ≤ g1 ∧ g1 < g2 ∧ g2 < w'.heap.size ∧ OF w' g1 (some ⟨g1, 0, none⟩) n1 n1 xs1 ∧ OF w' g2 (some ⟨g2, 0, none⟩) n2 n2 xs2) := by
  have H1 := Lib.hid h1
  clear h1
  have H2 := Lib.hid h2
  clear h2
  go_enter Tryd.func8, Tryd.ntmps8
  go_wp2_with fail
  refine (c_toRing' a1 n1 c1 xs1 i1 _ (FS.below (B := w.heap.size) H1.out (by (repeat (first | (with_reducible refine Below.drewN ?_) | (with_reducible refine Below.drew ?_) | ((with_reducible refine Below.alloc ?_ ?_ _); rotate_left; (first | omega | (simp <;> omega))) | ((with_reducible refine Below.setCell ?_ ?_ _); rotate_left; (first | omega | (simp <;> omega))) | (with_reducible exact Below.refl _ _) | (with_reducible assumption)))) (Nat.le_refl _)) m1).mono ?_
  rintro e w1 ⟨g1, rfl, hb1, hg1, hs1, of1_1⟩
  obtain ⟨hc1, hf1, hz1⟩ := bcell hb1
  try simp at hz1
  have zb1 : w.heap.size ≤ w1.heap.size := by omega
  try (have z1_0 : w.heap.size < w1.heap.size := by omega)
  try (have z1_1 : w.heap.size + 1 < w1.heap.size := by omega)
  try (have z1_2 : w.heap.size + 1 + 1 < w1.heap.size := by omega)
  try (have z1_3 : w.heap.size + 1 + 1 + 1 < w1.heap.size := by omega)
  have b1 : Below w.heap.size w w1 := Below.trans (by (repeat (first | (with_reducible refine Below.drewN ?_) | (with_reducible refine Below.drew ?_) | ((with_reducible refine Below.alloc ?_ ?_ _); rotate_left; (first | omega | (simp <;> omega))) | ((with_reducible refine Below.setCell ?_ ?_ _); rotate_left; (first | omega | (simp <;> omega))) | (with_reducible exact Below.refl _ _) | (with_reducible assumption)))) (hb1.mono (by first | omega | (simp <;> omega)))
  try simp at hg1
  have L1_1 : g1 < w1.heap.size := by first | assumption | omega
  go_wp2_with fail
  refine (c_toRing' a2 n2 c2 xs2 i2 _ (FS.below (B := w.heap.size) H2.out (by (repeat (first | (with_reducible refine Below.drewN ?_) | (with_reducible refine Below.drew ?_) | ((with_reducible refine Below.alloc ?_ ?_ _); rotate_left; (first | omega | (simp <;> omega))) | ((with_reducible refine Below.setCell ?_ ?_ _); rotate_left; (first | omega | (simp <;> omega))) | (with_reducible exact Below.refl _ _) | (with_reducible assumption)))) (Nat.le_refl _)) m2).mono ?_
  rintro e w2 ⟨g2, rfl, hb2, hg2, hs2, of2_2⟩
  obtain ⟨hc2, hf2, hz2⟩ := bcell hb2
  try simp at hz2
  have zb2 : w.heap.size ≤ w2.heap.size := by omega
  try (have z2_0 : w.heap.size < w2.heap.size := by omega)
  try (have z2_1 : w.heap.size + 1 < w2.heap.size := by omega)
  try (have z2_2 : w.heap.size + 1 + 1 < w2.heap.size := by omega)
  try (have z2_3 : w.heap.size + 1 + 1 + 1 < w2.heap.size := by omega)
  have b2 : Below w.heap.size w w2 := Below.trans (by (repeat (first | (with_reducible refine Below.drewN ?_) | (with_reducible refine Below.drew ?_) | ((with_reducible refine Below.alloc ?_ ?_ _); rotate_left; (first | omega | (simp <;> omega))) | ((with_reducible refine Below.setCell ?_ ?_ _); rotate_left; (first | omega | (simp <;> omega))) | (with_reducible exact Below.refl _ _) | (with_reducible assumption)))) (hb2.mono (by first | omega | (simp <;> omega)))
  try simp at hg2
  have G2 : g1 < g2 := by omega
  have of1_2 := OF.below (g := g1) (a := some ⟨g1, 0, none⟩) (n := n1) (c := n1) (xs := xs1) (by (repeat (first | (with_reducible assumption) | (with_reducible refine OF.draw ?_) | (with_reducible exact OF.made' (by simp) (by simp) (by omega)) | (with_reducible refine OF.alloc ?_ _) | ((with_reducible refine OF.setCell ?_ ?_ _); rotate_left; (first | omega | (simp <;> omega)))))) hb2 (Nat.le_refl _)
  have L1_2 : g1 < w2.heap.size := by first | assumption | omega
  have L2_2 : g2 < w2.heap.size := by first | assumption | omega
  go_wp2_with fail
  refine (c_toFilter _ _ _ _ _ _ _).mono ?_
  rintro e w3 ⟨rfl, hb3⟩
  obtain ⟨hc3, hf3, hz3⟩ := bcell hb3
  try simp at hz3
  have zb3 : w.heap.size ≤ w3.heap.size := by omega
  try (have z3_0 : w.heap.size < w3.heap.size := by omega)
  try (have z3_1 : w.heap.size + 1 < w3.heap.size := by omega)
  try (have z3_2 : w.heap.size + 1 + 1 < w3.heap.size := by omega)
  try (have z3_3 : w.heap.size + 1 + 1 + 1 < w3.heap.size := by omega)
  have b3 : Below w.heap.size w w3 := Below.trans (by (repeat (first | (with_reducible refine Below.drewN ?_) | (with_reducible refine Below.drew ?_) | ((with_reducible refine Below.alloc ?_ ?_ _); rotate_left; (first | omega | (simp <;> omega))) | ((with_reducible refine Below.setCell ?_ ?_ _); rotate_left; (first | omega | (simp <;> omega))) | (with_reducible exact Below.refl _ _) | (with_reducible assumption)))) (hb3.mono (by first | omega | (simp <;> omega)))
  have of1_3 := OF.below (g := g1) (a := some ⟨g1, 0, none⟩) (n := n1) (c := n1) (xs := xs1) (by (repeat (first | (with_reducible assumption) | (with_reducible refine OF.draw ?_) | (with_reducible exact OF.made' (by simp) (by simp) (by omega)) | (with_reducible refine OF.alloc ?_ _) | ((with_reducible refine OF.setCell ?_ ?_ _); rotate_left; (first | omega | (simp <;> omega)))))) hb3 (Nat.le_refl _)
  have of2_3 := OF.below (g := g2) (a := some ⟨g2, 0, none⟩) (n := n2) (c := n2) (xs := xs2) (by (repeat (first | (with_reducible assumption) | (with_reducible refine OF.draw ?_) | (with_reducible exact OF.made' (by simp) (by simp) (by omega)) | (with_reducible refine OF.alloc ?_ _) | ((with_reducible refine OF.setCell ?_ ?_ _); rotate_left; (first | omega | (simp <;> omega)))))) hb3 (Nat.le_refl _)
  have L1_3 : g1 < w3.heap.size := by first | assumption | omega
  have L2_3 : g2 < w3.heap.size := by first | assumption | omega
  go_wp2
  refine bodyPost_ret (v := ?v) (by simp [results, Tryd.results8, go_sem, *] <;> rfl) rfl ?_
  refine ⟨g1, g2, rfl, by (repeat (first | (with_reducible refine Below.drewN ?_) | (with_reducible refine Below.drew ?_) | ((with_reducible refine Below.alloc ?_ ?_ _); rotate_left; (first | omega | (simp <;> omega))) | ((with_reducible refine Below.setCell ?_ ?_ _); rotate_left; (first | omega | (simp <;> omega))) | (with_reducible exact Below.refl _ _) | (with_reducible assumption))), by omega, by omega, by (simp <;> omega), by (repeat (first | (with_reducible assumption) | (with_reducible refine OF.draw ?_) | (with_reducible exact OF.made' (by simp) (by simp) (by omega)) | (with_reducible refine OF.alloc ?_ _) | ((with_reducible refine OF.setCell ?_ ?_ _); rotate_left; (first | omega | (simp <;> omega))))), by (repeat (first | (with_reducible assumption) | (with_reducible refine OF.draw ?_) | (with_reducible exact OF.made' (by simp) (by simp) (by omega)) | (with_reducible refine OF.alloc ?_ _) | ((with_reducible refine OF.setCell ?_ ?_ _); rotate_left; (first | omega | (simp <;> omega)))))⟩
theorem c_eqBow' (a1 d1 : Option Addr) (n1 c1 e1 : Nat) (xs1 ys1 : List Nat) (i1 : Int) (a2 d2 : Option Addr) (n2 c2 e2 : Nat) (xs2 ys2 : List Nat) (i2 : Int) (k1 : Int) (f1_0 r1_0 f1_1 r1_1 f1_2 r1_2 f1_3 r1_3 f1_4 r1_4 : Nat) (x1 y1 : Nat) (x2 y2 : Nat) (w : World) (h1 : FS w a1 n1 c1 xs1) (j1 : FS w d1 n1 e1 ys1) (l1 : Alk xs1 ys1) (h2 : FS w a2 n2 c2 xs2) (j2 : FS w d2 n2 e2 ys2) (l2 : Alk xs2 ys2) (u1 : up r1_0 = up f1_0 ∧ up r1_1 = up f1_1 ∧ up r1_2 = up f1_2 ∧ up r1_3 = up f1_3 ∧ up r1_4 = up f1_4) (v1 : up y1 = up x1) (v2 : up y2 = up x2) :
    Calls Tryd.prog 10 #[.agg #[.slice a1 n1 c1, .int .i64 i1, .slice a2 n2 c2, .int .i64 i2, .int .i64 k1, .float .f32 f1_0, .float .f32 f1_1, .float .f32 f1_2, .float .f32 f1_3, .float .f32 f1_4, .float .f32 x1, .float .f32 x2], .agg #[.slice d1 n1 e1, .int .i64 i1, .slice d2 n2 e2, .int .i64 i2, .int .i64 k1, .float .f32 r1_0, .float .f32 r1_1, .float .f32 r1_2, .float .f32 r1_3, .float .f32 r1_4, .float .f32 y1, .float .f32 y2]] w (RetV (.bool true) w) := by
  have H1 := Lib.hid h1
  have J1 := Lib.hid j1
  have L1 := Lib.hid l1
  clear h1 j1 l1
  have H2 := Lib.hid h2
  have J2 := Lib.hid j2
  have L2 := Lib.hid l2
  clear h2 j2 l2
  have U1 := Lib.hid u1
  clear u1
  go_enter Tryd.func10, Tryd.ntmps10
  go_wp2_with (go_at_call 32; refine (c_sameFloat _ _ _ _).mono ?_; rintro e w' ⟨rfl, n3, rfl⟩)
  refine (c_eqRing' _ _ _ _ _ _ _ _ _ (FS.below (B := w.heap.size) H1.out (by (repeat (first | (with_reducible refine Below.drewN ?_) | (with_reducible refine Below.drew ?_) | ((with_reducible refine Below.alloc ?_ ?_ _); rotate_left; (first | omega | (simp <;> omega))) | ((with_reducible refine Below.setCell ?_ ?_ _); rotate_left; (first | omega | (simp <;> omega))) | (with_reducible exact Below.refl _ _) | (with_reducible assumption)))) (Nat.le_refl _)) (FS.below (B := w.heap.size) J1.out (by (repeat (first | (with_reducible refine Below.drewN ?_) | (with_reducible refine Below.drew ?_) | ((with_reducible refine Below.alloc ?_ ?_ _); rotate_left; (first | omega | (simp <;> omega))) | ((with_reducible refine Below.setCell ?_ ?_ _); rotate_left; (first | omega | (simp <;> omega))) | (with_reducible exact Below.refl _ _) | (with_reducible assumption)))) (Nat.le_refl _)) L1.out).mono ?_
  rintro e w1 ⟨rfl, hb1⟩
  obtain ⟨hc1, hf1, hz1⟩ := bcell hb1
  try simp at hz1
  have zb1 : w.heap.size ≤ w1.heap.size := by omega
  try (have z1_0 : w.heap.size < w1.heap.size := by omega)
  try (have z1_1 : w.heap.size + 1 < w1.heap.size := by omega)
  try (have z1_2 : w.heap.size + 1 + 1 < w1.heap.size := by omega)
  try (have z1_3 : w.heap.size + 1 + 1 + 1 < w1.heap.size := by omega)
  have b1 : Below w.heap.size w w1 := Below.trans (by (repeat (first | (with_reducible refine Below.drewN ?_) | (with_reducible refine Below.drew ?_) | ((with_reducible refine Below.alloc ?_ ?_ _); rotate_left; (first | omega | (simp <;> omega))) | ((with_reducible refine Below.setCell ?_ ?_ _); rotate_left; (first | omega | (simp <;> omega))) | (with_reducible exact Below.refl _ _) | (with_reducible assumption)))) (hb1.mono (by first | omega | (simp <;> omega)))
  go_wp2_with (go_at_call 32; refine (c_sameFloat _ _ _ _).mono ?_; rintro e w' ⟨rfl, n3, rfl⟩)
  refine (c_eqRing' _ _ _ _ _ _ _ _ _ (FS.below (B := w.heap.size) H2.out (by (repeat (first | (with_reducible refine Below.drewN ?_) | (with_reducible refine Below.drew ?_) | ((with_reducible refine Below.alloc ?_ ?_ _); rotate_left; (first | omega | (simp <;> omega))) | ((with_reducible refine Below.setCell ?_ ?_ _); rotate_left; (first | omega | (simp <;> omega))) | (with_reducible exact Below.refl _ _) | (with_reducible assumption)))) (Nat.le_refl _)) (FS.below (B := w.heap.size) J2.out (by (repeat (first | (with_reducible refine Below.drewN ?_) | (with_reducible refine Below.drew ?_) | ((with_reducible refine Below.alloc ?_ ?_ _); rotate_left; (first | omega | (simp <;> omega))) | ((with_reducible refine Below.setCell ?_ ?_ _); rotate_left; (first | omega | (simp <;> omega))) | (with_reducible exact Below.refl _ _) | (with_reducible assumption)))) (Nat.le_refl _)) L2.out).mono ?_
  rintro e w2 ⟨rfl, hb2⟩
  obtain ⟨hc2, hf2, hz2⟩ := bcell hb2
  try simp at hz2
  have zb2 : w.heap.size ≤ w2.heap.size := by omega
  try (have z2_0 : w.heap.size < w2.heap.size := by omega)
  try (have z2_1 : w.heap.size + 1 < w2.heap.size := by omega)
  try (have z2_2 : w.heap.size + 1 + 1 < w2.heap.size := by omega)
  try (have z2_3 : w.heap.size + 1 + 1 + 1 < w2.heap.size := by omega)
  have b2 : Below w.heap.size w w2 := Below.trans (by (repeat (first | (with_reducible refine Below.drewN ?_) | (with_reducible refine Below.drew ?_) | ((with_reducible refine Below.alloc ?_ ?_ _); rotate_left; (first | omega | (simp <;> omega))) | ((with_reducible refine Below.setCell ?_ ?_ _); rotate_left; (first | omega | (simp <;> omega))) | (with_reducible exact Below.refl _ _) | (with_reducible assumption)))) (hb2.mono (by first | omega | (simp <;> omega)))
  go_wp2_with (go_at_call 32; refine (c_sameFloat _ _ _ _).mono ?_; rintro e w' ⟨rfl, n3, rfl⟩)
  refine (c_eqFilter _ _ _ _ _ _ _ _ _ _ _ _ U1.out).mono ?_
  rintro e w3 ⟨rfl, hb3⟩
  obtain ⟨hc3, hf3, hz3⟩ := bcell hb3
  try simp at hz3
  have zb3 : w.heap.size ≤ w3.heap.size := by omega
  try (have z3_0 : w.heap.size < w3.heap.size := by omega)
  try (have z3_1 : w.heap.size + 1 < w3.heap.size := by omega)
  try (have z3_2 : w.heap.size + 1 + 1 < w3.heap.size := by omega)
  try (have z3_3 : w.heap.size + 1 + 1 + 1 < w3.heap.size := by omega)
  have b3 : Below w.heap.size w w3 := Below.trans (by (repeat (first | (with_reducible refine Below.drewN ?_) | (with_reducible refine Below.drew ?_) | ((with_reducible refine Below.alloc ?_ ?_ _); rotate_left; (first | omega | (simp <;> omega))) | ((with_reducible refine Below.setCell ?_ ?_ _); rotate_left; (first | omega | (simp <;> omega))) | (with_reducible exact Below.refl _ _) | (with_reducible assumption)))) (hb3.mono (by first | omega | (simp <;> omega)))
  go_wp2_with (go_at_call 32; refine (c_sameFloat _ _ _ _).mono ?_; rintro e w' ⟨rfl, n3, rfl⟩)
  go_ret
  exact ⟨rfl, by (repeat (first | (with_reducible refine Below.drewN ?_) | (with_reducible refine Below.drew ?_) | ((with_reducible refine Below.alloc ?_ ?_ _); rotate_left; (first | omega | (simp <;> omega))) | ((with_reducible refine Below.setCell ?_ ?_ _); rotate_left; (first | omega | (simp <;> omega))) | (with_reducible exact Below.refl _ _) | (with_reducible assumption)))⟩
def NewBow (n1 : Nat) (xs1 : List Nat) (i1 : Int) (n2 : Nat) (xs2 : List Nat) (i2 : Int) (k1 : Int) (f1_0 f1_1 f1_2 f1_3 f1_4 : Nat) (x1 : Nat) (x2 : Nat) (code : Int) (w : World) (e : Ending) (w' : World) : Prop :=
  ∃ (a1 a2 : Option Addr) (c1 c2 g1 g2 t_f1_0 t_f1_1 t_f1_2 t_f1_3 t_f1_4 t_x1 t_x2 : Nat), e = .returned (.tuple #[.agg #[.slice a1 n1 c1, .int .i64 i1, .slice a2 n2 c2, .int .i64 i2, .int .i64 k1, .float .f32 (nv .f32 f1_0 t_f1_0), .float .f32 (nv .f32 f1_1 t_f1_1), .float .f32 (nv .f32 f1_2 t_f1_2), .float .f32 (nv .f32 f1_3 t_f1_3), .float .f32 (nv .f32 f1_4 t_f1_4), .float .f32 (nv .f32 x1 t_x1), .float .f32 (nv .f32 x2 t_x2)], .int .i64 code]) ∧ Below w.heap.size w w' ∧ (0 < n1 → w.heap.size ≤ g1 ∧ g1 < w'.heap.size) ∧ (0 < n2 → w.heap.size ≤ g2 ∧ g2 < w'.heap.size) ∧ g1 ≠ g2 ∧ OF w' g1 a1 n1 c1 xs1 ∧ OF w' g2 a2 n2 c2 xs2


end Go.Proofs.YtbdanadmabemdaaDoor
