
/-
Contracts of the laws' own helpers over tunings.
-/
import Derived.Test.YtdhiihmfgmempaaMc
namespace Go.Proofs.Ytdhiihmfgmempaa
open Go Go.RowKit Fl
theorem c_szTuning_ok (x1 : Nat) (x2 : Nat) (a1 : Option Addr) (n1 c1 : Nat) (left : Int) (w : World) (h0 : 0 ≤ left) (h1 : left ≤ 1048576) (m1 : n1 ≤ 9223372036854775807) (h : (n1 : Int) ≤ left) :
    Calls Try.prog 26 #[.agg #[.float .f32 x1, .float .f32 x2, .slice a1 n1 c1], .int .i64 left] w (RetV (.int .i64 (left - n1)) w) := by
  go_enter Try.func26, Try.ntmps26
  go_wp2_with fail
  refine (c_szFloat32S_ok a1 n1 c1 (left) _ (by omega) (by omega) m1 (by omega)).mono ?_
  rintro e w1 ⟨rfl, hb1⟩
  obtain ⟨hc1, hf1, hz1⟩ := bcell hb1
  have g1 : ¬ (left - n1) < 0 := by omega
  try simp at hz1
  have zb1 : w.heap.size ≤ w1.heap.size := by omega
  try (have z1_0 : w.heap.size < w1.heap.size := by omega)
  try (have z1_1 : w.heap.size + 1 < w1.heap.size := by omega)
  try (have z1_2 : w.heap.size + 1 + 1 < w1.heap.size := by omega)
  try (have z1_3 : w.heap.size + 1 + 1 + 1 < w1.heap.size := by omega)
  go_wp2
  go_ret
  have b1 : Below w.heap.size w w1 := Below.trans (by (repeat (first | (with_reducible refine Below.drewN ?_) | (with_reducible refine Below.drew ?_) | ((with_reducible refine Below.alloc ?_ ?_ _); rotate_left; (first | omega | (simp <;> omega))) | ((with_reducible refine Below.setCell ?_ ?_ _); rotate_left; (first | omega | (simp <;> omega))) | (with_reducible exact Below.refl _ _) | (with_reducible assumption)))) (hb1.mono (by first | omega | (simp <;> omega)))
  exact ⟨rfl, b1⟩
theorem c_szTuning_no (x1 : Nat) (x2 : Nat) (a1 : Option Addr) (n1 c1 : Nat) (left : Int) (w : World) (h0 : 0 ≤ left) (h1 : left ≤ 1048576) (m1 : n1 ≤ 9223372036854775807) (h : left < (n1 : Int)) :
    Calls Try.prog 26 #[.agg #[.float .f32 x1, .float .f32 x2, .slice a1 n1 c1], .int .i64 left] w (RetV (.int .i64 (-1)) w) := by
  go_enter Try.func26, Try.ntmps26
  go_wp2_with fail
  refine (c_szFloat32S_no a1 n1 c1 (left) _ (by omega) (by omega) m1 (by omega)).mono ?_
  rintro e w1 ⟨rfl, hb1⟩
  obtain ⟨hc1, hf1, hz1⟩ := bcell hb1
  go_wp2
  go_ret
  have b1 : Below w.heap.size w w1 := Below.trans (by (repeat (first | (with_reducible refine Below.drewN ?_) | (with_reducible refine Below.drew ?_) | ((with_reducible refine Below.alloc ?_ ?_ _); rotate_left; (first | omega | (simp <;> omega))) | ((with_reducible refine Below.setCell ?_ ?_ _); rotate_left; (first | omega | (simp <;> omega))) | (with_reducible exact Below.refl _ _) | (with_reducible assumption)))) (hb1.mono (by first | omega | (simp <;> omega)))
  exact ⟨rfl, b1⟩
theorem c_toTuning' (x1 : Nat) (x2 : Nat) (a1 : Option Addr) (n1 c1 : Nat) (xs1 : List Nat) (w : World) (h1 : FS w a1 n1 c1 xs1) (m1 : n1 ≤ 1048576) :
    Calls Try.prog 28 #[.agg #[.float .f32 x1, .float .f32 x2, .slice a1 n1 c1]] w (fun e w' => ∃ g1, e = .returned (.agg #[.float .f32 x1, .float .f32 x2, .slice (some ⟨g1, 0, none⟩) n1 n1]) ∧ Below w.heap.size w w' ∧ w.heap.size ≤ g1 ∧ g1 < w'.heap.size ∧ OF w' g1 (some ⟨g1, 0, none⟩) n1 n1 xs1) := by
  have H1 := Lib.hid h1
  clear h1
  go_enter Try.func28, Try.ntmps28
  go_wp2_with fail
  refine (c_toFloat32S' a1 n1 c1 xs1 _ (FS.below (B := w.heap.size) H1.out (by (repeat (first | (with_reducible refine Below.drewN ?_) | (with_reducible refine Below.drew ?_) | ((with_reducible refine Below.alloc ?_ ?_ _); rotate_left; (first | omega | (simp <;> omega))) | ((with_reducible refine Below.setCell ?_ ?_ _); rotate_left; (first | omega | (simp <;> omega))) | (with_reducible exact Below.refl _ _) | (with_reducible assumption)))) (Nat.le_refl _)) m1).mono ?_
  rintro e w1 ⟨g1, rfl, hb1, hg1, hs1, of1_1⟩
  obtain ⟨hc1, hf1, hz1⟩ := bcell hb1
  try simp at hz1
  have zb1 : w.heap.size ≤ w1.heap.size := by omega
  try (have z1_0 : w.heap.size < w1.heap.size := by omega)
  try (have z1_1 : w.heap.size + 1 < w1.heap.size := by omega)
  try (have z1_2 : w.heap.size + 1 + 1 < w1.heap.size := by omega)
  try (have z1_3 : w.heap.size + 1 + 1 + 1 < w1.heap.size := by omega)
  have b1 : Below w.heap.size w w1 := Below.trans (by (repeat (first | (with_reducible refine Below.drewN ?_) | (with_reducible refine Below.drew ?_) | ((with_reducible refine Below.alloc ?_ ?_ _); rotate_left; (first | omega | (simp <;> omega))) | ((with_reducible refine Below.setCell ?_ ?_ _); rotate_left; (first | omega | (simp <;> omega))) | (with_reducible exact Below.refl _ _) | (with_reducible assumption)))) (hb1.mono (by first | omega | (simp <;> omega)))
  try simp at hg1
  have L1_1 : g1 < w1.heap.size := by first | assumption | omega
  go_wp2
  refine bodyPost_ret (v := ?v) (by simp [results, Try.results28, go_sem, *] <;> rfl) rfl ?_
  refine ⟨g1, rfl, by (repeat (first | (with_reducible refine Below.drewN ?_) | (with_reducible refine Below.drew ?_) | ((with_reducible refine Below.alloc ?_ ?_ _); rotate_left; (first | omega | (simp <;> omega))) | ((with_reducible refine Below.setCell ?_ ?_ _); rotate_left; (first | omega | (simp <;> omega))) | (with_reducible exact Below.refl _ _) | (with_reducible assumption))), by omega, by (simp <;> omega), by (repeat (first | (with_reducible assumption) | (with_reducible refine OF.draw ?_) | (with_reducible exact OF.made' (by simp) (by simp) (by omega)) | (with_reducible refine OF.alloc ?_ _) | ((with_reducible refine OF.setCell ?_ ?_ _); rotate_left; (first | omega | (simp <;> omega)))))⟩
theorem c_eqTuning' (x1 y1 : Nat) (x2 y2 : Nat) (a1 d1 : Option Addr) (n1 c1 e1 : Nat) (xs1 ys1 : List Nat) (w : World) (v1 : up y1 = up x1) (v2 : up y2 = up x2) (h1 : FS w a1 n1 c1 xs1) (j1 : FS w d1 n1 e1 ys1) (l1 : Alk xs1 ys1) :
    Calls Try.prog 23 #[.agg #[.float .f32 x1, .float .f32 x2, .slice a1 n1 c1], .agg #[.float .f32 y1, .float .f32 y2, .slice d1 n1 e1]] w (RetV (.bool true) w) := by
  have H1 := Lib.hid h1
  have J1 := Lib.hid j1
  have L1 := Lib.hid l1
  clear h1 j1 l1
  go_enter Try.func23, Try.ntmps23
  go_wp2_with (go_at_call 39; refine (c_sameFloat _ _ _ _).mono ?_; rintro e w' ⟨rfl, n3, rfl⟩)
  refine (c_eqFloat32S' _ _ _ _ _ _ _ _ (FS.below (B := w.heap.size) H1.out (by (repeat (first | (with_reducible refine Below.drewN ?_) | (with_reducible refine Below.drew ?_) | ((with_reducible refine Below.alloc ?_ ?_ _); rotate_left; (first | omega | (simp <;> omega))) | ((with_reducible refine Below.setCell ?_ ?_ _); rotate_left; (first | omega | (simp <;> omega))) | (with_reducible exact Below.refl _ _) | (with_reducible assumption)))) (Nat.le_refl _)) (FS.below (B := w.heap.size) J1.out (by (repeat (first | (with_reducible refine Below.drewN ?_) | (with_reducible refine Below.drew ?_) | ((with_reducible refine Below.alloc ?_ ?_ _); rotate_left; (first | omega | (simp <;> omega))) | ((with_reducible refine Below.setCell ?_ ?_ _); rotate_left; (first | omega | (simp <;> omega))) | (with_reducible exact Below.refl _ _) | (with_reducible assumption)))) (Nat.le_refl _)) L1.out).mono ?_
  rintro e w1 ⟨rfl, hb1⟩
  obtain ⟨hc1, hf1, hz1⟩ := bcell hb1
  try simp at hz1
  have zb1 : w.heap.size ≤ w1.heap.size := by omega
  try (have z1_0 : w.heap.size < w1.heap.size := by omega)
  try (have z1_1 : w.heap.size + 1 < w1.heap.size := by omega)
  try (have z1_2 : w.heap.size + 1 + 1 < w1.heap.size := by omega)
  try (have z1_3 : w.heap.size + 1 + 1 + 1 < w1.heap.size := by omega)
  have b1 : Below w.heap.size w w1 := Below.trans (by (repeat (first | (with_reducible refine Below.drewN ?_) | (with_reducible refine Below.drew ?_) | ((with_reducible refine Below.alloc ?_ ?_ _); rotate_left; (first | omega | (simp <;> omega))) | ((with_reducible refine Below.setCell ?_ ?_ _); rotate_left; (first | omega | (simp <;> omega))) | (with_reducible exact Below.refl _ _) | (with_reducible assumption)))) (hb1.mono (by first | omega | (simp <;> omega)))
  go_wp2_with (go_at_call 39; refine (c_sameFloat _ _ _ _).mono ?_; rintro e w' ⟨rfl, n3, rfl⟩)
  go_ret
  exact ⟨rfl, by (repeat (first | (with_reducible refine Below.drewN ?_) | (with_reducible refine Below.drew ?_) | ((with_reducible refine Below.alloc ?_ ?_ _); rotate_left; (first | omega | (simp <;> omega))) | ((with_reducible refine Below.setCell ?_ ?_ _); rotate_left; (first | omega | (simp <;> omega))) | (with_reducible exact Below.refl _ _) | (with_reducible assumption)))⟩
theorem c_markTuning' (g1 : Nat) (x1 : Nat) (x2 : Nat) (a1 : Option Addr) (n1 c1 : Nat) (xs1 : List Nat) (k : Int) (w : World) (h1 : OF w g1 a1 n1 c1 xs1) (B1 : 0 < n1 → g1 < w.heap.size) (hk0 : 0 ≤ k) (hk : k + (n1 : Int) ≤ 1099511627776) :
    Calls Try.prog 24 #[.agg #[.float .f32 x1, .float .f32 x2, .slice a1 n1 c1], .int .i64 k] w (fun e w' => e = .returned (.int .i64 (k + (n1 : Int))) ∧ Wr (gl n1 g1) w w' ∧ OF w' g1 a1 n1 c1 (marks (k) n1)) := by
  have H1 := Lib.hid h1
  clear h1
  go_enter Try.func24, Try.ntmps24
  go_wp2_with fail
  have A1 := OF.alloc H1.out (.cells #[.float .f32 x1, .float .f32 x2, .slice a1 n1 c1] 31)
  refine (c_markFloat32S' g1 a1 n1 c1 xs1 (k) _ (by (repeat (first | (with_reducible assumption) | (with_reducible refine OF.draw ?_) | (with_reducible exact OF.made' (by simp) (by simp) (by omega)) | (with_reducible refine OF.alloc ?_ _) | ((with_reducible refine OF.setCell ?_ ?_ _); rotate_left; (first | omega | (simp <;> omega)))))) (by simp at *; omega) (by omega) (by omega)).mono ?_
  rintro e w1 ⟨rfl, wr1, of1_1⟩
  obtain ⟨hc1, hf1, hz1⟩ := wr1.cell w.heap.size (by first | (simp; done) | omega) (by simp only [mem_gl]; omega)
  try simp at hz1
  have zb1 : w.heap.size ≤ w1.heap.size := by omega
  try (have z1_0 : w.heap.size < w1.heap.size := by omega)
  try (have z1_1 : w.heap.size + 1 < w1.heap.size := by omega)
  try (have z1_2 : w.heap.size + 1 + 1 < w1.heap.size := by omega)
  try (have z1_3 : w.heap.size + 1 + 1 + 1 < w1.heap.size := by omega)
  go_wp2
  go_ret
  have r0 : Wr [] w (w.alloc (.cells #[.float .f32 x1, .float .f32 x2, .slice a1 n1 c1] 31)) := Wr.of_below ((Below.refl _ _).alloc (Nat.le_refl _) _)
  exact ⟨rfl, (r0.trans wr1).mono (by simp), of1_1⟩
theorem c_heldTuning' (x1 : Nat) (x2 : Nat) (a1 : Option Addr) (n1 c1 : Nat) (k : Int) (w : World) (h1 : FS w a1 n1 c1 (marks (k) n1)) (hk0 : 0 ≤ k) (hk : k + (n1 : Int) ≤ 1099511627776) :
    Calls Try.prog 25 #[.agg #[.float .f32 x1, .float .f32 x2, .slice a1 n1 c1], .int .i64 k] w (RetV (.int .i64 (k + (n1 : Int))) w) := by
  have H1 := Lib.hid h1
  clear h1
  go_enter Try.func25, Try.ntmps25
  go_wp2_with fail
  refine (c_heldFloat32S' a1 n1 c1 (k) _ (FS.below (B := w.heap.size) H1.out (by (repeat (first | (with_reducible refine Below.drewN ?_) | (with_reducible refine Below.drew ?_) | ((with_reducible refine Below.alloc ?_ ?_ _); rotate_left; (first | omega | (simp <;> omega))) | ((with_reducible refine Below.setCell ?_ ?_ _); rotate_left; (first | omega | (simp <;> omega))) | (with_reducible exact Below.refl _ _) | (with_reducible assumption)))) (Nat.le_refl _)) (by omega) (by omega)).mono ?_
  rintro e w1 ⟨rfl, hb1⟩
  obtain ⟨hc1, hf1, hz1⟩ := bcell hb1
  try simp at hz1
  have zb1 : w.heap.size ≤ w1.heap.size := by omega
  try (have z1_0 : w.heap.size < w1.heap.size := by omega)
  try (have z1_1 : w.heap.size + 1 < w1.heap.size := by omega)
  try (have z1_2 : w.heap.size + 1 + 1 < w1.heap.size := by omega)
  try (have z1_3 : w.heap.size + 1 + 1 + 1 < w1.heap.size := by omega)
  have b1 : Below w.heap.size w w1 := Below.trans (by (repeat (first | (with_reducible refine Below.drewN ?_) | (with_reducible refine Below.drew ?_) | ((with_reducible refine Below.alloc ?_ ?_ _); rotate_left; (first | omega | (simp <;> omega))) | ((with_reducible refine Below.setCell ?_ ?_ _); rotate_left; (first | omega | (simp <;> omega))) | (with_reducible exact Below.refl _ _) | (with_reducible assumption)))) (hb1.mono (by first | omega | (simp <;> omega)))
  go_wp2
  go_ret
  exact ⟨rfl, by (repeat (first | (with_reducible refine Below.drewN ?_) | (with_reducible refine Below.drew ?_) | ((with_reducible refine Below.alloc ?_ ?_ _); rotate_left; (first | omega | (simp <;> omega))) | ((with_reducible refine Below.setCell ?_ ?_ _); rotate_left; (first | omega | (simp <;> omega))) | (with_reducible exact Below.refl _ _) | (with_reducible assumption)))⟩
def NewTuning (x1 : Nat) (x2 : Nat) (n1 : Nat) (xs1 : List Nat) (code : Int) (w : World) (e : Ending) (w' : World) : Prop :=
  ∃ (a1 : Option Addr) (c1 g1 t_x1 t_x2 : Nat), e = .returned (.tuple #[.agg #[.float .f32 (nv .f32 x1 t_x1), .float .f32 (nv .f32 x2 t_x2), .slice a1 n1 c1], .int .i64 code]) ∧ Below w.heap.size w w' ∧ (0 < n1 → w.heap.size ≤ g1 ∧ g1 < w'.heap.size) ∧ OF w' g1 a1 n1 c1 xs1


end Go.Proofs.Ytdhiihmfgmempaa
