
/-
Contracts of the laws' own helpers over pipes.
-/
import Derived.Test.YtbdanadmabemdaaDoorRc
import Derived.Test.YtbdanadmabemdaaDoorFe
import Derived.Test.YtbdanadmabemdaaDoorMc
namespace Go.Proofs.YtbdanadmabemdaaDoor
open Go Go.RowKit Fl
theorem c_szPipe_ok (a1 : Option Addr) (n1 c1 : Nat) (rs1 : List Rg) (a2 : Option Addr) (n2 c2 : Nat) (rs2 : List Rg) (a3 : Option Addr) (n3 c3 : Nat) (xs3 : List Nat) (k : Int) (f0 f1 f2 f3 f4 : Nat) (op : Bool) (x1 x2 x3 : Nat) (w : World) (h1 : RS w a1 n1 c1 rs1) (h2 : RS w a2 n2 c2 rs2) (h3 : FS w a3 n3 c3 xs3) (h : (n1 : Int) + (rgSum rs1 n1 : Int) + (n2 : Int) + (rgSum rs2 n2 : Int) + (n3 : Int) ≤ 1048576) :
    Calls Tryd.prog 16 #[.agg #[.slice a1 n1 c1, .slice a2 n2 c2, .slice a3 n3 c3, .int .i64 k, .float .f32 f0, .float .f32 f1, .float .f32 f2, .float .f32 f3, .float .f32 f4, .bool op, .float .f32 x1, .float .f32 x2, .float .f32 x3], .int .i64 1048576] w (RetV (.int .i64 (1048576 - n1 - rgSum rs1 n1 - n2 - rgSum rs2 n2 - n3)) w) := by
  have H1 := Lib.hid h1
  have H2 := Lib.hid h2
  have m3 : n3 ≤ 9223372036854775807 := Nat.le_trans h3.cap h3.big
  clear h1 h2 h3
  go_enter Tryd.func16, Tryd.ntmps16
  go_wp2_with fail
  refine (c_szRingS_ok a1 n1 c1 rs1 (1048576) _ (RS.below (B := w.heap.size) H1.out (by (repeat (first | (with_reducible refine Below.drewN ?_) | (with_reducible refine Below.drew ?_) | ((with_reducible refine Below.alloc ?_ ?_ _); rotate_left; (first | omega | (simp <;> omega))) | ((with_reducible refine Below.setCell ?_ ?_ _); rotate_left; (first | omega | (simp <;> omega))) | (with_reducible exact Below.refl _ _) | (with_reducible assumption)))) (Nat.le_refl _)) (by omega) (by omega)).mono ?_
  rintro e w1 ⟨rfl, hb1⟩
  obtain ⟨hc1, hf1, hz1⟩ := bcell hb1
  have b1 : Below w.heap.size w w1 := Below.trans (by (repeat (first | (with_reducible refine Below.drewN ?_) | (with_reducible refine Below.drew ?_) | ((with_reducible refine Below.alloc ?_ ?_ _); rotate_left; (first | omega | (simp <;> omega))) | ((with_reducible refine Below.setCell ?_ ?_ _); rotate_left; (first | omega | (simp <;> omega))) | (with_reducible exact Below.refl _ _) | (with_reducible assumption)))) (hb1.mono (by first | omega | (simp <;> omega)))
  have g1 : ¬ (1048576 - n1 - rgSum rs1 n1) < 0 := by omega
  try simp at hz1
  have zb1 : w.heap.size ≤ w1.heap.size := by omega
  try (have z1_0 : w.heap.size < w1.heap.size := by omega)
  try (have z1_1 : w.heap.size + 1 < w1.heap.size := by omega)
  try (have z1_2 : w.heap.size + 1 + 1 < w1.heap.size := by omega)
  try (have z1_3 : w.heap.size + 1 + 1 + 1 < w1.heap.size := by omega)
  go_wp2_with fail
  refine (c_szRingS_ok a2 n2 c2 rs2 (1048576 - n1 - rgSum rs1 n1) _ (RS.below (B := w.heap.size) H2.out (by (repeat (first | (with_reducible refine Below.drewN ?_) | (with_reducible refine Below.drew ?_) | ((with_reducible refine Below.alloc ?_ ?_ _); rotate_left; (first | omega | (simp <;> omega))) | ((with_reducible refine Below.setCell ?_ ?_ _); rotate_left; (first | omega | (simp <;> omega))) | (with_reducible exact Below.refl _ _) | (with_reducible assumption)))) (Nat.le_refl _)) (by omega) (by omega)).mono ?_
  rintro e w2 ⟨rfl, hb2⟩
  obtain ⟨hc2, hf2, hz2⟩ := bcell hb2
  have b2 : Below w.heap.size w w2 := b1.trans (hb2.mono (by first | omega | (simp at *; omega)))
  have g2 : ¬ (1048576 - n1 - rgSum rs1 n1 - n2 - rgSum rs2 n2) < 0 := by omega
  try simp at hz2
  have zb2 : w.heap.size ≤ w2.heap.size := by omega
  try (have z2_0 : w.heap.size < w2.heap.size := by omega)
  try (have z2_1 : w.heap.size + 1 < w2.heap.size := by omega)
  try (have z2_2 : w.heap.size + 1 + 1 < w2.heap.size := by omega)
  try (have z2_3 : w.heap.size + 1 + 1 + 1 < w2.heap.size := by omega)
  go_wp2_with fail
  refine (c_szFloat32S_ok a3 n3 c3 (1048576 - n1 - rgSum rs1 n1 - n2 - rgSum rs2 n2) _ (by omega) (by omega) m3 (by omega)).mono ?_
  rintro e w3 ⟨rfl, hb3⟩
  obtain ⟨hc3, hf3, hz3⟩ := bcell hb3
  have b3 : Below w.heap.size w w3 := b2.trans (hb3.mono (by first | omega | (simp at *; omega)))
  have g3 : ¬ (1048576 - n1 - rgSum rs1 n1 - n2 - rgSum rs2 n2 - n3) < 0 := by omega
  try simp at hz3
  have zb3 : w.heap.size ≤ w3.heap.size := by omega
  try (have z3_0 : w.heap.size < w3.heap.size := by omega)
  try (have z3_1 : w.heap.size + 1 < w3.heap.size := by omega)
  try (have z3_2 : w.heap.size + 1 + 1 < w3.heap.size := by omega)
  try (have z3_3 : w.heap.size + 1 + 1 + 1 < w3.heap.size := by omega)
  go_wp2
  go_ret
  exact ⟨rfl, b3⟩
theorem c_szPipe_no (a1 : Option Addr) (n1 c1 : Nat) (rs1 : List Rg) (a2 : Option Addr) (n2 c2 : Nat) (rs2 : List Rg) (a3 : Option Addr) (n3 c3 : Nat) (xs3 : List Nat) (k : Int) (f0 f1 f2 f3 f4 : Nat) (op : Bool) (x1 x2 x3 : Nat) (w : World) (h1 : RS w a1 n1 c1 rs1) (h2 : RS w a2 n2 c2 rs2) (h3 : FS w a3 n3 c3 xs3) (h : 1048576 < (n1 : Int) + (rgSum rs1 n1 : Int) + (n2 : Int) + (rgSum rs2 n2 : Int) + (n3 : Int)) :
    Calls Tryd.prog 16 #[.agg #[.slice a1 n1 c1, .slice a2 n2 c2, .slice a3 n3 c3, .int .i64 k, .float .f32 f0, .float .f32 f1, .float .f32 f2, .float .f32 f3, .float .f32 f4, .bool op, .float .f32 x1, .float .f32 x2, .float .f32 x3], .int .i64 1048576] w (RetV (.int .i64 (-1)) w) := by
  have H1 := Lib.hid h1
  have H2 := Lib.hid h2
  have m3 : n3 ≤ 9223372036854775807 := Nat.le_trans h3.cap h3.big
  clear h1 h2 h3
  by_cases q1 : 1048576 < (n1 : Int) + (rgSum rs1 n1 : Int)
  · go_enter Tryd.func16, Tryd.ntmps16
    go_wp2_with fail
    refine (c_szRingS_no a1 n1 c1 rs1 (1048576) _ (RS.below (B := w.heap.size) H1.out (by (repeat (first | (with_reducible refine Below.drewN ?_) | (with_reducible refine Below.drew ?_) | ((with_reducible refine Below.alloc ?_ ?_ _); rotate_left; (first | omega | (simp <;> omega))) | ((with_reducible refine Below.setCell ?_ ?_ _); rotate_left; (first | omega | (simp <;> omega))) | (with_reducible exact Below.refl _ _) | (with_reducible assumption)))) (Nat.le_refl _)) (by omega) (by omega) (by omega)).mono ?_
    rintro e w1 ⟨rfl, hb1⟩
    obtain ⟨hc1, hf1, hz1⟩ := bcell hb1
    have b1 : Below w.heap.size w w1 := Below.trans (by (repeat (first | (with_reducible refine Below.drewN ?_) | (with_reducible refine Below.drew ?_) | ((with_reducible refine Below.alloc ?_ ?_ _); rotate_left; (first | omega | (simp <;> omega))) | ((with_reducible refine Below.setCell ?_ ?_ _); rotate_left; (first | omega | (simp <;> omega))) | (with_reducible exact Below.refl _ _) | (with_reducible assumption)))) (hb1.mono (by first | omega | (simp <;> omega)))
    go_wp2
    go_ret
    exact ⟨rfl, b1⟩
  by_cases q2 : 1048576 < (n1 : Int) + (rgSum rs1 n1 : Int) + (n2 : Int) + (rgSum rs2 n2 : Int)
  · go_enter Tryd.func16, Tryd.ntmps16
    go_wp2_with fail
    refine (c_szRingS_ok a1 n1 c1 rs1 (1048576) _ (RS.below (B := w.heap.size) H1.out (by (repeat (first | (with_reducible refine Below.drewN ?_) | (with_reducible refine Below.drew ?_) | ((with_reducible refine Below.alloc ?_ ?_ _); rotate_left; (first | omega | (simp <;> omega))) | ((with_reducible refine Below.setCell ?_ ?_ _); rotate_left; (first | omega | (simp <;> omega))) | (with_reducible exact Below.refl _ _) | (with_reducible assumption)))) (Nat.le_refl _)) (by omega) (by omega)).mono ?_
    rintro e w1 ⟨rfl, hb1⟩
    obtain ⟨hc1, hf1, hz1⟩ := bcell hb1
    have b1 : Below w.heap.size w w1 := Below.trans (by (repeat (first | (with_reducible refine Below.drewN ?_) | (with_reducible refine Below.drew ?_) | ((with_reducible refine Below.alloc ?_ ?_ _); rotate_left; (first | omega | (simp <;> omega))) | ((with_reducible refine Below.setCell ?_ ?_ _); rotate_left; (first | omega | (simp <;> omega))) | (with_reducible exact Below.refl _ _) | (with_reducible assumption)))) (hb1.mono (by first | omega | (simp <;> omega)))
    have g1 : ¬ (1048576 - n1 - rgSum rs1 n1) < 0 := by omega
    try simp at hz1
    have zb1 : w.heap.size ≤ w1.heap.size := by omega
    try (have z1_0 : w.heap.size < w1.heap.size := by omega)
    try (have z1_1 : w.heap.size + 1 < w1.heap.size := by omega)
    try (have z1_2 : w.heap.size + 1 + 1 < w1.heap.size := by omega)
    try (have z1_3 : w.heap.size + 1 + 1 + 1 < w1.heap.size := by omega)
    go_wp2_with fail
    refine (c_szRingS_no a2 n2 c2 rs2 (1048576 - n1 - rgSum rs1 n1) _ (RS.below (B := w.heap.size) H2.out (by (repeat (first | (with_reducible refine Below.drewN ?_) | (with_reducible refine Below.drew ?_) | ((with_reducible refine Below.alloc ?_ ?_ _); rotate_left; (first | omega | (simp <;> omega))) | ((with_reducible refine Below.setCell ?_ ?_ _); rotate_left; (first | omega | (simp <;> omega))) | (with_reducible exact Below.refl _ _) | (with_reducible assumption)))) (Nat.le_refl _)) (by omega) (by omega) (by omega)).mono ?_
    rintro e w2 ⟨rfl, hb2⟩
    obtain ⟨hc2, hf2, hz2⟩ := bcell hb2
    have b2 : Below w.heap.size w w2 := b1.trans (hb2.mono (by first | omega | (simp at *; omega)))
    go_wp2
    go_ret
    exact ⟨rfl, b2⟩
  go_enter Tryd.func16, Tryd.ntmps16
  go_wp2_with fail
  refine (c_szRingS_ok a1 n1 c1 rs1 (1048576) _ (RS.below (B := w.heap.size) H1.out (by (repeat (first | (with_reducible refine Below.drewN ?_) | (with_reducible refine Below.drew ?_) | ((with_reducible refine Below.alloc ?_ ?_ _); rotate_left; (first | omega | (simp <;> omega))) | ((with_reducible refine Below.setCell ?_ ?_ _); rotate_left; (first | omega | (simp <;> omega))) | (with_reducible exact Below.refl _ _) | (with_reducible assumption)))) (Nat.le_refl _)) (by omega) (by omega)).mono ?_
  rintro e w1 ⟨rfl, hb1⟩
  obtain ⟨hc1, hf1, hz1⟩ := bcell hb1
  have b1 : Below w.heap.size w w1 := Below.trans (by (repeat (first | (with_reducible refine Below.drewN ?_) | (with_reducible refine Below.drew ?_) | ((with_reducible refine Below.alloc ?_ ?_ _); rotate_left; (first | omega | (simp <;> omega))) | ((with_reducible refine Below.setCell ?_ ?_ _); rotate_left; (first | omega | (simp <;> omega))) | (with_reducible exact Below.refl _ _) | (with_reducible assumption)))) (hb1.mono (by first | omega | (simp <;> omega)))
  have g1 : ¬ (1048576 - n1 - rgSum rs1 n1) < 0 := by omega
  try simp at hz1
  have zb1 : w.heap.size ≤ w1.heap.size := by omega
  try (have z1_0 : w.heap.size < w1.heap.size := by omega)
  try (have z1_1 : w.heap.size + 1 < w1.heap.size := by omega)
  try (have z1_2 : w.heap.size + 1 + 1 < w1.heap.size := by omega)
  try (have z1_3 : w.heap.size + 1 + 1 + 1 < w1.heap.size := by omega)
  go_wp2_with fail
  refine (c_szRingS_ok a2 n2 c2 rs2 (1048576 - n1 - rgSum rs1 n1) _ (RS.below (B := w.heap.size) H2.out (by (repeat (first | (with_reducible refine Below.drewN ?_) | (with_reducible refine Below.drew ?_) | ((with_reducible refine Below.alloc ?_ ?_ _); rotate_left; (first | omega | (simp <;> omega))) | ((with_reducible refine Below.setCell ?_ ?_ _); rotate_left; (first | omega | (simp <;> omega))) | (with_reducible exact Below.refl _ _) | (with_reducible assumption)))) (Nat.le_refl _)) (by omega) (by omega)).mono ?_
  rintro e w2 ⟨rfl, hb2⟩
  obtain ⟨hc2, hf2, hz2⟩ := bcell hb2
  have b2 : Below w.heap.size w w2 := b1.trans (hb2.mono (by first | omega | (simp at *; omega)))
  have g2 : ¬ (1048576 - n1 - rgSum rs1 n1 - n2 - rgSum rs2 n2) < 0 := by omega
  try simp at hz2
  have zb2 : w.heap.size ≤ w2.heap.size := by omega
  try (have z2_0 : w.heap.size < w2.heap.size := by omega)
  try (have z2_1 : w.heap.size + 1 < w2.heap.size := by omega)
  try (have z2_2 : w.heap.size + 1 + 1 < w2.heap.size := by omega)
  try (have z2_3 : w.heap.size + 1 + 1 + 1 < w2.heap.size := by omega)
  go_wp2_with fail
  refine (c_szFloat32S_no a3 n3 c3 (1048576 - n1 - rgSum rs1 n1 - n2 - rgSum rs2 n2) _ (by omega) (by omega) m3 (by omega)).mono ?_
  rintro e w3 ⟨rfl, hb3⟩
  obtain ⟨hc3, hf3, hz3⟩ := bcell hb3
  have b3 : Below w.heap.size w w3 := b2.trans (hb3.mono (by first | omega | (simp at *; omega)))
  go_wp2
  go_ret
  exact ⟨rfl, b3⟩

set_option maxRecDepth 100000 in
set_option maxHeartbeats 4000000 in
theorem c_toPipe' (a1 : Option Addr) (n1 c1 : Nat) (rs1 : List Rg) (a2 : Option Addr) (n2 c2 : Nat) (rs2 : List Rg) (a3 : Option Addr) (n3 c3 : Nat) (xs3 : List Nat) (k : Int) (f0 f1 f2 f3 f4 : Nat) (op : Bool) (x1 x2 x3 : Nat) (w : World) (h1 : RS w a1 n1 c1 rs1) (h2 : RS w a2 n2 c2 rs2) (h3 : FS w a3 n3 c3 xs3) (m1 : n1 ≤ 1048576) (q1 : ∀ j, j < n1 → (rat rs1 j).n ≤ 1048576) (m2 : n2 ≤ 1048576) (q2 : ∀ j, j < n2 → (rat rs2 j).n ≤ 1048576) (m3 : n3 ≤ 1048576) :
    Calls Tryd.prog 18 #[.agg #[.slice a1 n1 c1, .slice a2 n2 c2, .slice a3 n3 c3, .int .i64 k, .float .f32 f0, .float .f32 f1, .float .f32 f2, .float .f32 f3, .float .f32 f4, .bool op, .float .f32 x1, .float .f32 x2, .float .f32 x3]] w (fun e w' => ∃ g1 g2 g3 ss1 ss2, e = .returned (.agg #[.slice (some ⟨g1, 0, none⟩) n1 n1, .slice (some ⟨g2, 0, none⟩) n2 n2, .slice (some ⟨g3, 0, none⟩) n3 n3, .int .i64 k, .float .f32 f0, .float .f32 f1, .float .f32 f2, .float .f32 f3, .float .f32 f4, .bool op, .float .f32 x1, .float .f32 x2, .float .f32 x3]) ∧ Below w.heap.size w w' ∧ RS w' (some ⟨g1, 0, none⟩) n1 n1 ss1 ∧ RS w' (some ⟨g2, 0, none⟩) n2 n2 ss2 ∧ FS w' (some ⟨g3, 0, none⟩) n3 n3 xs3 ∧ sameC rs1 ss1 n1 ∧ sameC rs2 ss2 n2) := by
  have H1 := Lib.hid h1
  clear h1
  have H2 := Lib.hid h2
  clear h2
  have H3 := Lib.hid h3
  clear h3
  have Q1 := Lib.hid q1
  clear q1
  have Q2 := Lib.hid q2
  clear q2
  go_enter Tryd.func18, Tryd.ntmps18
  go_wp2_with fail
  refine (c_toRingS a1 n1 c1 rs1 _ (RS.below (B := w.heap.size) H1.out (by (repeat (first | (with_reducible refine Below.drewN ?_) | (with_reducible refine Below.drew ?_) | ((with_reducible refine Below.alloc ?_ ?_ _); rotate_left; (first | omega | (simp <;> omega))) | ((with_reducible refine Below.setCell ?_ ?_ _); rotate_left; (first | omega | (simp <;> omega))) | (with_reducible exact Below.refl _ _) | (with_reducible assumption)))) (Nat.le_refl _)) m1 Q1.out).mono ?_
  rintro e w1 ⟨g1, ss1, rfl, hb1, r1_1, s1, lo1⟩
  obtain ⟨hc1, hf1, hz1⟩ := bcell hb1
  try simp at hz1
  have zb1 : w.heap.size ≤ w1.heap.size := by omega
  try (have z1_0 : w.heap.size < w1.heap.size := by omega)
  try (have z1_1 : w.heap.size + 1 < w1.heap.size := by omega)
  try (have z1_2 : w.heap.size + 1 + 1 < w1.heap.size := by omega)
  try (have z1_3 : w.heap.size + 1 + 1 + 1 < w1.heap.size := by omega)
  have b1 : Below w.heap.size w w1 := Below.trans (by (repeat (first | (with_reducible refine Below.drewN ?_) | (with_reducible refine Below.drew ?_) | ((with_reducible refine Below.alloc ?_ ?_ _); rotate_left; (first | omega | (simp <;> omega))) | ((with_reducible refine Below.setCell ?_ ?_ _); rotate_left; (first | omega | (simp <;> omega))) | (with_reducible exact Below.refl _ _) | (with_reducible assumption)))) (hb1.mono (by first | omega | (simp <;> omega)))
  have L1 : Hid (RLow (w.heap.size + 3) (some ⟨g1, 0, none⟩) n1 ss1) := lo1.mono (by first | omega | (simp <;> omega))
  clear lo1
  have S1 := Lib.hid s1
  clear s1
  go_wp2_with fail
  refine (c_toRingS a2 n2 c2 rs2 _ (RS.below (B := w.heap.size) H2.out (by (repeat (first | (with_reducible refine Below.drewN ?_) | (with_reducible refine Below.drew ?_) | ((with_reducible refine Below.alloc ?_ ?_ _); rotate_left; (first | omega | (simp <;> omega))) | ((with_reducible refine Below.setCell ?_ ?_ _); rotate_left; (first | omega | (simp <;> omega))) | (with_reducible exact Below.refl _ _) | (with_reducible assumption)))) (Nat.le_refl _)) m2 Q2.out).mono ?_
  rintro e w2 ⟨g2, ss2, rfl, hb2, r2_2, s2, lo2⟩
  obtain ⟨hc2, hf2, hz2⟩ := bcell hb2
  try simp at hz2
  have zb2 : w.heap.size ≤ w2.heap.size := by omega
  try (have z2_0 : w.heap.size < w2.heap.size := by omega)
  try (have z2_1 : w.heap.size + 1 < w2.heap.size := by omega)
  try (have z2_2 : w.heap.size + 1 + 1 < w2.heap.size := by omega)
  try (have z2_3 : w.heap.size + 1 + 1 + 1 < w2.heap.size := by omega)
  have b2 : Below w.heap.size w w2 := Below.trans (by (repeat (first | (with_reducible refine Below.drewN ?_) | (with_reducible refine Below.drew ?_) | ((with_reducible refine Below.alloc ?_ ?_ _); rotate_left; (first | omega | (simp <;> omega))) | ((with_reducible refine Below.setCell ?_ ?_ _); rotate_left; (first | omega | (simp <;> omega))) | (with_reducible exact Below.refl _ _) | (with_reducible assumption)))) (hb2.mono (by first | omega | (simp <;> omega)))
  have L2 : Hid (RLow (w.heap.size + 3) (some ⟨g2, 0, none⟩) n2 ss2) := lo2.mono (by first | omega | (simp <;> omega))
  clear lo2
  have S2 := Lib.hid s2
  clear s2
  have r1_2 := RS.below (a := some ⟨g1, 0, none⟩) (n := n1) (c := n1) (rs := ss1) (by (repeat (first | (with_reducible assumption) | ((with_reducible refine RS.setCell ?_ L1.out ?_ _); rotate_left; (first | omega | (simp <;> omega))) | (with_reducible refine RS.alloc ?_ _) | (with_reducible refine RS.draw ?_)))) hb2 (Nat.le_refl _)
  clear r1_1
  go_wp2_with fail
  refine (c_toFloat32S' a3 n3 c3 xs3 _ (FS.below (B := w.heap.size) H3.out (by (repeat (first | (with_reducible refine Below.drewN ?_) | (with_reducible refine Below.drew ?_) | ((with_reducible refine Below.alloc ?_ ?_ _); rotate_left; (first | omega | (simp <;> omega))) | ((with_reducible refine Below.setCell ?_ ?_ _); rotate_left; (first | omega | (simp <;> omega))) | (with_reducible exact Below.refl _ _) | (with_reducible assumption)))) (Nat.le_refl _)) m3).mono ?_
  rintro e w3 ⟨g3, rfl, hb3, hg3, hs3, of3_3⟩
  obtain ⟨hc3, hf3, hz3⟩ := bcell hb3
  try simp at hz3
  have zb3 : w.heap.size ≤ w3.heap.size := by omega
  try (have z3_0 : w.heap.size < w3.heap.size := by omega)
  try (have z3_1 : w.heap.size + 1 < w3.heap.size := by omega)
  try (have z3_2 : w.heap.size + 1 + 1 < w3.heap.size := by omega)
  try (have z3_3 : w.heap.size + 1 + 1 + 1 < w3.heap.size := by omega)
  have b3 : Below w.heap.size w w3 := Below.trans (by (repeat (first | (with_reducible refine Below.drewN ?_) | (with_reducible refine Below.drew ?_) | ((with_reducible refine Below.alloc ?_ ?_ _); rotate_left; (first | omega | (simp <;> omega))) | ((with_reducible refine Below.setCell ?_ ?_ _); rotate_left; (first | omega | (simp <;> omega))) | (with_reducible exact Below.refl _ _) | (with_reducible assumption)))) (hb3.mono (by first | omega | (simp <;> omega)))
  have r1_3 := RS.below (a := some ⟨g1, 0, none⟩) (n := n1) (c := n1) (rs := ss1) (by (repeat (first | (with_reducible assumption) | ((with_reducible refine RS.setCell ?_ L1.out ?_ _); rotate_left; (first | omega | (simp <;> omega))) | (with_reducible refine RS.alloc ?_ _) | (with_reducible refine RS.draw ?_)))) hb3 (Nat.le_refl _)
  clear r1_2
  have r2_3 := RS.below (a := some ⟨g2, 0, none⟩) (n := n2) (c := n2) (rs := ss2) (by (repeat (first | (with_reducible assumption) | ((with_reducible refine RS.setCell ?_ L2.out ?_ _); rotate_left; (first | omega | (simp <;> omega))) | (with_reducible refine RS.alloc ?_ _) | (with_reducible refine RS.draw ?_)))) hb3 (Nat.le_refl _)
  clear r2_2
  try simp at hg3
  have G3 : w.heap.size + 2 < g3 := by omega
  go_wp2_with fail
  refine (c_toFilter _ _ _ _ _ _ _).mono ?_
  rintro e w4 ⟨rfl, hb4⟩
  obtain ⟨hc4, hf4, hz4⟩ := bcell hb4
  try simp at hz4
  have zb4 : w.heap.size ≤ w4.heap.size := by omega
  try (have z4_0 : w.heap.size < w4.heap.size := by omega)
  try (have z4_1 : w.heap.size + 1 < w4.heap.size := by omega)
  try (have z4_2 : w.heap.size + 1 + 1 < w4.heap.size := by omega)
  try (have z4_3 : w.heap.size + 1 + 1 + 1 < w4.heap.size := by omega)
  have b4 : Below w.heap.size w w4 := Below.trans (by (repeat (first | (with_reducible refine Below.drewN ?_) | (with_reducible refine Below.drew ?_) | ((with_reducible refine Below.alloc ?_ ?_ _); rotate_left; (first | omega | (simp <;> omega))) | ((with_reducible refine Below.setCell ?_ ?_ _); rotate_left; (first | omega | (simp <;> omega))) | (with_reducible exact Below.refl _ _) | (with_reducible assumption)))) (hb4.mono (by first | omega | (simp <;> omega)))
  have r1_4 := RS.below (a := some ⟨g1, 0, none⟩) (n := n1) (c := n1) (rs := ss1) (by (repeat (first | (with_reducible assumption) | ((with_reducible refine RS.setCell ?_ L1.out ?_ _); rotate_left; (first | omega | (simp <;> omega))) | (with_reducible refine RS.alloc ?_ _) | (with_reducible refine RS.draw ?_)))) hb4 (Nat.le_refl _)
  clear r1_3
  have r2_4 := RS.below (a := some ⟨g2, 0, none⟩) (n := n2) (c := n2) (rs := ss2) (by (repeat (first | (with_reducible assumption) | ((with_reducible refine RS.setCell ?_ L2.out ?_ _); rotate_left; (first | omega | (simp <;> omega))) | (with_reducible refine RS.alloc ?_ _) | (with_reducible refine RS.draw ?_)))) hb4 (Nat.le_refl _)
  clear r2_3
  have of3_4 := OF.below (g := g3) (a := some ⟨g3, 0, none⟩) (n := n3) (c := n3) (xs := xs3) (by (repeat (first | (with_reducible assumption) | (with_reducible refine OF.draw ?_) | (with_reducible exact OF.made' (by simp) (by simp) (by omega)) | (with_reducible refine OF.alloc ?_ _) | ((with_reducible refine OF.setCell ?_ ?_ _); rotate_left; (first | omega | (simp <;> omega)))))) hb4 (Nat.le_refl _)
  clear of3_3
  go_upto_region 10 with fail
  refine wp_named ?_
  intro W hW
  have BW : Below w.heap.size w W := by rw [hW]; (repeat (first | (with_reducible refine Below.drewN ?_) | (with_reducible refine Below.drew ?_) | ((with_reducible refine Below.alloc ?_ ?_ _); rotate_left; (first | omega | (simp <;> omega))) | ((with_reducible refine Below.setCell ?_ ?_ _); rotate_left; (first | omega | (simp <;> omega))) | (with_reducible exact Below.refl _ _) | (with_reducible assumption)))
  have F0 : W.cell? ⟨w.heap.size + 1 + 1, 0, none⟩ = some (.slice (some ⟨g1, 0, none⟩) n1 n1) := by rw [hW]; simp [go_sem, *]
  have F1 : W.cell? ⟨w.heap.size + 1 + 1, 1, none⟩ = some (.slice (some ⟨g2, 0, none⟩) n2 n2) := by rw [hW]; simp [go_sem, *]
  have F2 : W.cell? ⟨w.heap.size + 1 + 1, 2, none⟩ = some (.slice (some ⟨g3, 0, none⟩) n3 n3) := by rw [hW]; simp [go_sem, *]
  have F3 : W.cell? ⟨w.heap.size + 1 + 1, 3, none⟩ = some (.int .i64 k) := by rw [hW]; simp [go_sem, *]
  have F4 : W.cell? ⟨w.heap.size + 1 + 1, 4, none⟩ = some (.float .f32 f0) := by rw [hW]; simp [go_sem, *]
  have F5 : W.cell? ⟨w.heap.size + 1 + 1, 5, none⟩ = some (.float .f32 f1) := by rw [hW]; simp [go_sem, *]
  have F6 : W.cell? ⟨w.heap.size + 1 + 1, 6, none⟩ = some (.float .f32 f2) := by rw [hW]; simp [go_sem, *]
  have F7 : W.cell? ⟨w.heap.size + 1 + 1, 7, none⟩ = some (.float .f32 f3) := by rw [hW]; simp [go_sem, *]
  have F8 : W.cell? ⟨w.heap.size + 1 + 1, 8, none⟩ = some (.float .f32 f4) := by rw [hW]; simp [go_sem, *]
  have F9 : W.cell? ⟨w.heap.size + 1 + 1, 9, none⟩ = some (.bool op) := by rw [hW]; simp [go_sem, *]
  have F10 : W.cell? ⟨w.heap.size + 1 + 1, 10, none⟩ = some (.float .f32 x1) := by rw [hW]; simp [go_sem, *]
  have F11 : W.cell? ⟨w.heap.size + 1 + 1, 11, none⟩ = some (.float .f32 x2) := by rw [hW]; simp [go_sem, *]
  have F12 : W.cell? ⟨w.heap.size + 1 + 1, 12, none⟩ = some (.float .f32 x3) := by rw [hW]; simp [go_sem, *]
  have Z0 : W.cell? ⟨w.heap.size + 1, 0, none⟩ = some (.slice none 0 0) := by rw [hW]; simp [go_sem, *]
  have Z1 : W.cell? ⟨w.heap.size + 1, 1, none⟩ = some (.slice none 0 0) := by rw [hW]; simp [go_sem, *]
  have Z2 : W.cell? ⟨w.heap.size + 1, 2, none⟩ = some (.slice none 0 0) := by rw [hW]; simp [go_sem, *]
  have Z3 : W.cell? ⟨w.heap.size + 1, 3, none⟩ = some (.int .i64 0) := by rw [hW]; simp [go_sem, *]
  have Z4 : W.cell? ⟨w.heap.size + 1, 4, none⟩ = some (.float .f32 0) := by rw [hW]; simp [go_sem, *]
  have Z5 : W.cell? ⟨w.heap.size + 1, 5, none⟩ = some (.float .f32 0) := by rw [hW]; simp [go_sem, *]
  have Z6 : W.cell? ⟨w.heap.size + 1, 6, none⟩ = some (.float .f32 0) := by rw [hW]; simp [go_sem, *]
  have Z7 : W.cell? ⟨w.heap.size + 1, 7, none⟩ = some (.float .f32 0) := by rw [hW]; simp [go_sem, *]
  have Z8 : W.cell? ⟨w.heap.size + 1, 8, none⟩ = some (.float .f32 0) := by rw [hW]; simp [go_sem, *]
  have Z9 : W.cell? ⟨w.heap.size + 1, 9, none⟩ = some (.bool false) := by rw [hW]; simp [go_sem, *]
  have Z10 : W.cell? ⟨w.heap.size + 1, 10, none⟩ = some (.float .f32 0) := by rw [hW]; simp [go_sem, *]
  have Z11 : W.cell? ⟨w.heap.size + 1, 11, none⟩ = some (.float .f32 0) := by rw [hW]; simp [go_sem, *]
  have Z12 : W.cell? ⟨w.heap.size + 1, 12, none⟩ = some (.float .f32 0) := by rw [hW]; simp [go_sem, *]
  have FR : ∀ o, W.frozen? ⟨w.heap.size + 1, o, none⟩ = false := by intro o; rw [hW]; simp [go_sem, *]; try rfl
  have rW1 : RS W (some ⟨g1, 0, none⟩) n1 n1 ss1 := by
    rw [hW]
    (repeat (first | (with_reducible assumption) | ((with_reducible refine RS.setCell ?_ L1.out ?_ _); rotate_left; (first | omega | (simp <;> omega))) | (with_reducible refine RS.alloc ?_ _) | (with_reducible refine RS.draw ?_)))
  have rW2 : RS W (some ⟨g2, 0, none⟩) n2 n2 ss2 := by
    rw [hW]
    (repeat (first | (with_reducible assumption) | ((with_reducible refine RS.setCell ?_ L2.out ?_ _); rotate_left; (first | omega | (simp <;> omega))) | (with_reducible refine RS.alloc ?_ _) | (with_reducible refine RS.draw ?_)))
  have oW3 : OF W g3 (some ⟨g3, 0, none⟩) n3 n3 xs3 := by rw [hW]; (repeat (first | (with_reducible assumption) | (with_reducible refine OF.draw ?_) | (with_reducible exact OF.made' (by simp) (by simp) (by omega)) | (with_reducible refine OF.alloc ?_ _) | ((with_reducible refine OF.setCell ?_ ?_ _); rotate_left; (first | omega | (simp <;> omega)))))
  clear hW
  have TH : W.there (w.heap.size + 1) 0 13 := there_of (vs := [.slice none 0 0, .slice none 0 0, .slice none 0 0, .int .i64 0, .float .f32 0, .float .f32 0, .float .f32 0, .float .f32 0, .float .f32 0, .bool false, .float .f32 0, .float .f32 0, .float .f32 0]) (range_cons Z0 (range_cons Z1 (range_cons Z2 (range_cons Z3 (range_cons Z4 (range_cons Z5 (range_cons Z6 (range_cons Z7 (range_cons Z8 (range_cons Z9 (range_cons Z10 (range_cons Z11 (range_cons Z12 (range_nil _ _ _)))))))))))))) FR
  have RG : W.rangeAt (w.heap.size + 1 + 1) 0 [.slice (some ⟨g1, 0, none⟩) n1 n1, .slice (some ⟨g2, 0, none⟩) n2 n2, .slice (some ⟨g3, 0, none⟩) n3 n3, .int .i64 k, .float .f32 f0, .float .f32 f1, .float .f32 f2, .float .f32 f3, .float .f32 f4, .bool op, .float .f32 x1, .float .f32 x2, .float .f32 x3] := range_cons F0 (range_cons F1 (range_cons F2 (range_cons F3 (range_cons F4 (range_cons F5 (range_cons F6 (range_cons F7 (range_cons F8 (range_cons F9 (range_cons F10 (range_cons F11 (range_cons F12 (range_nil _ _ _)))))))))))))
  have hR := Lib.hid (run_loadVar_mid (P := Tryd.prog) (W.setCells (w.heap.size + 1) 0 [.slice (some ⟨g1, 0, none⟩) n1 n1, .slice (some ⟨g2, 0, none⟩) n2 n2, .slice (some ⟨g3, 0, none⟩) n3 n3, .int .i64 k, .float .f32 f0, .float .f32 f1, .float .f32 f2, .float .f32 f3, .float .f32 f4, .bool op, .float .f32 x1, .float .f32 x2, .float .f32 x3]) (w.heap.size + 1) 0 57 [.slice (some ⟨g1, 0, none⟩) n1 n1, .slice (some ⟨g2, 0, none⟩) n2 n2, .slice (some ⟨g3, 0, none⟩) n3 n3, .int .i64 k, .float .f32 f0, .float .f32 f1, .float .f32 f2, .float .f32 f3, .float .f32 f4, .bool op, .float .f32 x1, .float .f32 x2, .float .f32 x3] _ (World.rangeAt_setCells_same _ _ _ _ TH) Tryd.underlying57 rfl (by kernel_rfl))
  clear F0 F1 F2 F3 F4 F5 F6 F7 F8 F9 F10 F11 F12 Z0 Z1 Z2 Z3 Z4 Z5 Z6 Z7 Z8 Z9 Z10 Z11 Z12 FR
  have WR := wr_setCells (w.heap.size + 1) [.slice (some ⟨g1, 0, none⟩) n1 n1, .slice (some ⟨g2, 0, none⟩) n2 n2, .slice (some ⟨g3, 0, none⟩) n3 n3, .int .i64 k, .float .f32 f0, .float .f32 f1, .float .f32 f2, .float .f32 f3, .float .f32 f4, .bool op, .float .f32 x1, .float .f32 x2, .float .f32 x3] 0 W
  refine wp_region_lit ?_
  refine wpList_load_mid rfl 57 _ rfl (w.heap.size + 1 + 1) 0 rfl [.slice (some ⟨g1, 0, none⟩) n1 n1, .slice (some ⟨g2, 0, none⟩) n2 n2, .slice (some ⟨g3, 0, none⟩) n3 n3, .int .i64 k, .float .f32 f0, .float .f32 f1, .float .f32 f2, .float .f32 f3, .float .f32 f4, .bool op, .float .f32 x1, .float .f32 x2, .float .f32 x3] _ RG Tryd.underlying57 rfl (by kernel_rfl) ?_
  refine wpList_store_mid rfl 57 _ _ rfl (w.heap.size + 1) 0 #[.slice (some ⟨g1, 0, none⟩) n1 n1, .slice (some ⟨g2, 0, none⟩) n2 n2, .slice (some ⟨g3, 0, none⟩) n3 n3, .int .i64 k, .float .f32 f0, .float .f32 f1, .float .f32 f2, .float .f32 f3, .float .f32 f4, .bool op, .float .f32 x1, .float .f32 x2, .float .f32 x3] rfl rfl TH (by kernel_rfl) (by simp [Value.oneCell']) ?_
  go_wp2
  refine bodyPost_ret (v := .agg #[.slice (some ⟨g1, 0, none⟩) n1 n1, .slice (some ⟨g2, 0, none⟩) n2 n2, .slice (some ⟨g3, 0, none⟩) n3 n3, .int .i64 k, .float .f32 f0, .float .f32 f1, .float .f32 f2, .float .f32 f3, .float .f32 f4, .bool op, .float .f32 x1, .float .f32 x2, .float .f32 x3]) (results_cell Tryd.results18 rfl hR.out) rfl ?_
  refine ⟨g1, g2, g3, ss1, ss2, rfl, BW.trans (WR.below (by have := BW.size; omega) (by simp)), rW1.wr0 L1.out WR (by omega), rW2.wr0 L2.out WR (by omega), (oW3.wr WR (by simp; omega)).fs, S1.out, S2.out⟩

theorem c_eqPipe' (a1 : Option Addr) (n1 c1 : Nat) (rs1 : List Rg) (a2 : Option Addr) (n2 c2 : Nat) (rs2 : List Rg) (a3 : Option Addr) (n3 c3 : Nat) (xs3 : List Nat) (k : Int) (f0 f1 f2 f3 f4 : Nat) (op : Bool) (x1 x2 x3 : Nat) (d1 d2 d3 : Option Addr) (e1 e2 e3 : Nat) (ss1 ss2 : List Rg) (w : World) (h1 : RS w a1 n1 c1 rs1) (h2 : RS w a2 n2 c2 rs2) (h3 : FS w a3 n3 c3 xs3) (j1 : RS w d1 n1 e1 ss1) (j2 : RS w d2 n2 e2 ss2) (j3 : FS w d3 n3 e3 xs3) (s1 : sameC rs1 ss1 n1) (s2 : sameC rs2 ss2 n2) :
    Calls Tryd.prog 20 #[.agg #[.slice a1 n1 c1, .slice a2 n2 c2, .slice a3 n3 c3, .int .i64 k, .float .f32 f0, .float .f32 f1, .float .f32 f2, .float .f32 f3, .float .f32 f4, .bool op, .float .f32 x1, .float .f32 x2, .float .f32 x3], .agg #[.slice d1 n1 e1, .slice d2 n2 e2, .slice d3 n3 e3, .int .i64 k, .float .f32 f0, .float .f32 f1, .float .f32 f2, .float .f32 f3, .float .f32 f4, .bool op, .float .f32 x1, .float .f32 x2, .float .f32 x3]] w (RetV (.bool true) w) := by
  have H1 := Lib.hid h1
  have J1 := Lib.hid j1
  clear h1 j1
  have H2 := Lib.hid h2
  have J2 := Lib.hid j2
  clear h2 j2
  have H3 := Lib.hid h3
  have J3 := Lib.hid j3
  clear h3 j3
  have S1 := Lib.hid s1
  clear s1
  have S2 := Lib.hid s2
  clear s2
  go_enter Tryd.func20, Tryd.ntmps20
  go_wp2_with (go_at_call 32; refine (c_sameFloat _ _ _ _).mono ?_; rintro e w' ⟨rfl, n3, rfl⟩)
  refine (c_eqRingS _ _ _ _ _ _ _ _ (RS.below (B := w.heap.size) H1.out (by (repeat (first | (with_reducible refine Below.drewN ?_) | (with_reducible refine Below.drew ?_) | ((with_reducible refine Below.alloc ?_ ?_ _); rotate_left; (first | omega | (simp <;> omega))) | ((with_reducible refine Below.setCell ?_ ?_ _); rotate_left; (first | omega | (simp <;> omega))) | (with_reducible exact Below.refl _ _) | (with_reducible assumption)))) (Nat.le_refl _)) (RS.below (B := w.heap.size) J1.out (by (repeat (first | (with_reducible refine Below.drewN ?_) | (with_reducible refine Below.drew ?_) | ((with_reducible refine Below.alloc ?_ ?_ _); rotate_left; (first | omega | (simp <;> omega))) | ((with_reducible refine Below.setCell ?_ ?_ _); rotate_left; (first | omega | (simp <;> omega))) | (with_reducible exact Below.refl _ _) | (with_reducible assumption)))) (Nat.le_refl _)) S1.out).mono ?_
  rintro e w1 ⟨rfl, hb1⟩
  obtain ⟨hc1, hf1, hz1⟩ := bcell hb1
  try simp at hz1
  have zb1 : w.heap.size ≤ w1.heap.size := by omega
  try (have z1_0 : w.heap.size < w1.heap.size := by omega)
  try (have z1_1 : w.heap.size + 1 < w1.heap.size := by omega)
  try (have z1_2 : w.heap.size + 1 + 1 < w1.heap.size := by omega)
  try (have z1_3 : w.heap.size + 1 + 1 + 1 < w1.heap.size := by omega)
  have b1 : Below w.heap.size w w1 := Below.trans (by (repeat (first | (with_reducible refine Below.drewN ?_) | (with_reducible refine Below.drew ?_) | ((with_reducible refine Below.alloc ?_ ?_ _); rotate_left; (first | omega | (simp <;> omega))) | ((with_reducible refine Below.setCell ?_ ?_ _); rotate_left; (first | omega | (simp <;> omega))) | (with_reducible exact Below.refl _ _) | (with_reducible assumption)))) (hb1.mono (by first | omega | (simp <;> omega)))
  go_wp2_with (go_at_call 32; refine (c_sameFloat _ _ _ _).mono ?_; rintro e w' ⟨rfl, n3, rfl⟩)
  refine (c_eqRingS _ _ _ _ _ _ _ _ (RS.below (B := w.heap.size) H2.out (by (repeat (first | (with_reducible refine Below.drewN ?_) | (with_reducible refine Below.drew ?_) | ((with_reducible refine Below.alloc ?_ ?_ _); rotate_left; (first | omega | (simp <;> omega))) | ((with_reducible refine Below.setCell ?_ ?_ _); rotate_left; (first | omega | (simp <;> omega))) | (with_reducible exact Below.refl _ _) | (with_reducible assumption)))) (Nat.le_refl _)) (RS.below (B := w.heap.size) J2.out (by (repeat (first | (with_reducible refine Below.drewN ?_) | (with_reducible refine Below.drew ?_) | ((with_reducible refine Below.alloc ?_ ?_ _); rotate_left; (first | omega | (simp <;> omega))) | ((with_reducible refine Below.setCell ?_ ?_ _); rotate_left; (first | omega | (simp <;> omega))) | (with_reducible exact Below.refl _ _) | (with_reducible assumption)))) (Nat.le_refl _)) S2.out).mono ?_
  rintro e w2 ⟨rfl, hb2⟩
  obtain ⟨hc2, hf2, hz2⟩ := bcell hb2
  try simp at hz2
  have zb2 : w.heap.size ≤ w2.heap.size := by omega
  try (have z2_0 : w.heap.size < w2.heap.size := by omega)
  try (have z2_1 : w.heap.size + 1 < w2.heap.size := by omega)
  try (have z2_2 : w.heap.size + 1 + 1 < w2.heap.size := by omega)
  try (have z2_3 : w.heap.size + 1 + 1 + 1 < w2.heap.size := by omega)
  have b2 : Below w.heap.size w w2 := Below.trans (by (repeat (first | (with_reducible refine Below.drewN ?_) | (with_reducible refine Below.drew ?_) | ((with_reducible refine Below.alloc ?_ ?_ _); rotate_left; (first | omega | (simp <;> omega))) | ((with_reducible refine Below.setCell ?_ ?_ _); rotate_left; (first | omega | (simp <;> omega))) | (with_reducible exact Below.refl _ _) | (with_reducible assumption)))) (hb2.mono (by first | omega | (simp <;> omega)))
  go_wp2_with (go_at_call 32; refine (c_sameFloat _ _ _ _).mono ?_; rintro e w' ⟨rfl, n3, rfl⟩)
  refine (c_eqFloat32S' _ _ _ _ _ _ _ _ (FS.below (B := w.heap.size) H3.out (by (repeat (first | (with_reducible refine Below.drewN ?_) | (with_reducible refine Below.drew ?_) | ((with_reducible refine Below.alloc ?_ ?_ _); rotate_left; (first | omega | (simp <;> omega))) | ((with_reducible refine Below.setCell ?_ ?_ _); rotate_left; (first | omega | (simp <;> omega))) | (with_reducible exact Below.refl _ _) | (with_reducible assumption)))) (Nat.le_refl _)) (FS.below (B := w.heap.size) J3.out (by (repeat (first | (with_reducible refine Below.drewN ?_) | (with_reducible refine Below.drew ?_) | ((with_reducible refine Below.alloc ?_ ?_ _); rotate_left; (first | omega | (simp <;> omega))) | ((with_reducible refine Below.setCell ?_ ?_ _); rotate_left; (first | omega | (simp <;> omega))) | (with_reducible exact Below.refl _ _) | (with_reducible assumption)))) (Nat.le_refl _)) (Alk.refl _)).mono ?_
  rintro e w3 ⟨rfl, hb3⟩
  obtain ⟨hc3, hf3, hz3⟩ := bcell hb3
  try simp at hz3
  have zb3 : w.heap.size ≤ w3.heap.size := by omega
  try (have z3_0 : w.heap.size < w3.heap.size := by omega)
  try (have z3_1 : w.heap.size + 1 < w3.heap.size := by omega)
  try (have z3_2 : w.heap.size + 1 + 1 < w3.heap.size := by omega)
  try (have z3_3 : w.heap.size + 1 + 1 + 1 < w3.heap.size := by omega)
  have b3 : Below w.heap.size w w3 := Below.trans (by (repeat (first | (with_reducible refine Below.drewN ?_) | (with_reducible refine Below.drew ?_) | ((with_reducible refine Below.alloc ?_ ?_ _); rotate_left; (first | omega | (simp <;> omega))) | ((with_reducible refine Below.setCell ?_ ?_ _); rotate_left; (first | omega | (simp <;> omega))) | (with_reducible exact Below.refl _ _) | (with_reducible assumption)))) (hb3.mono (by first | omega | (simp <;> omega)))
  go_wp2_with (go_at_call 32; refine (c_sameFloat _ _ _ _).mono ?_; rintro e w' ⟨rfl, n3, rfl⟩)
  refine (c_eqFilter _ _ _ _ _ _ _ _ _ _ _ _ ⟨rfl, rfl, rfl, rfl, rfl⟩).mono ?_
  rintro e w4 ⟨rfl, hb4⟩
  obtain ⟨hc4, hf4, hz4⟩ := bcell hb4
  try simp at hz4
  have zb4 : w.heap.size ≤ w4.heap.size := by omega
  try (have z4_0 : w.heap.size < w4.heap.size := by omega)
  try (have z4_1 : w.heap.size + 1 < w4.heap.size := by omega)
  try (have z4_2 : w.heap.size + 1 + 1 < w4.heap.size := by omega)
  try (have z4_3 : w.heap.size + 1 + 1 + 1 < w4.heap.size := by omega)
  have b4 : Below w.heap.size w w4 := Below.trans (by (repeat (first | (with_reducible refine Below.drewN ?_) | (with_reducible refine Below.drew ?_) | ((with_reducible refine Below.alloc ?_ ?_ _); rotate_left; (first | omega | (simp <;> omega))) | ((with_reducible refine Below.setCell ?_ ?_ _); rotate_left; (first | omega | (simp <;> omega))) | (with_reducible exact Below.refl _ _) | (with_reducible assumption)))) (hb4.mono (by first | omega | (simp <;> omega)))
  go_wp2_with (go_at_call 32; refine (c_sameFloat _ _ _ _).mono ?_; rintro e w' ⟨rfl, n3, rfl⟩)
  go_ret
  exact ⟨rfl, by (repeat (first | (with_reducible refine Below.drewN ?_) | (with_reducible refine Below.drew ?_) | ((with_reducible refine Below.alloc ?_ ?_ _); rotate_left; (first | omega | (simp <;> omega))) | ((with_reducible refine Below.setCell ?_ ?_ _); rotate_left; (first | omega | (simp <;> omega))) | (with_reducible exact Below.refl _ _) | (with_reducible assumption)))⟩


end Go.Proofs.YtbdanadmabemdaaDoor
