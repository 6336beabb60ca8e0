
/-
Muting bows: the reference, valid.
-/
import Derived.Test.YtbkafmikaojclaaCyBow
namespace Go.Proofs.Ytbkafmikaojclaa
open Go Go.RowKit Fl
set_option linter.unusedSimpArgs false
set_option maxRecDepth 100000 in
set_option maxHeartbeats 2000000 in
theorem c_sMuteBow_ok (a1 : Option Addr) (n1 c1 : Nat) (xs1 : List Nat) (i1 : Int) (a2 : Option Addr) (n2 c2 : Nat) (xs2 : List Nat) (i2 : Int) (k1 : Int) (f1_0 f1_1 f1_2 f1_3 f1_4 : Nat) (x1 : Nat) (x2 : Nat) (w : World) (h_1 : FS w a1 n1 c1 xs1) (h_2 : FS w a2 n2 c2 xs2) (hv : valBow n1 xs1 i1 n2 xs2 i2 k1 f1_0 f1_1 f1_2 f1_3 f1_4 x1 x2 = true) :
    Calls Try.prog 54 #[.agg #[.slice a1 n1 c1, .int .i64 i1, .slice a2 n2 c2, .int .i64 i2, .int .i64 k1, .float .f32 f1_0, .float .f32 f1_1, .float .f32 f1_2, .float .f32 f1_3, .float .f32 f1_4, .float .f32 x1, .float .f32 x2]] w (NewBow n1 (List.replicate n1 0) i1 n2 (List.replicate n2 0) i2 k1 f1_0 f1_1 f1_2 0 0 x1 x2 0 w) := by
  have hr1 : ringB n1 i1 = true := valBow_r1 hv
  have hn1 : 1 ≤ n1 ∧ n1 ≤ 1024 := by
    unfold ringB at hr1
    rw [Bool.and_eq_true] at hr1
    have := inB_yes hr1.1
    omega
  obtain ⟨l1, u1⟩ := hn1
  clear hr1
  have hr2 : ringB n2 i2 = true := valBow_r2 hv
  have hn2 : 1 ≤ n2 ∧ n2 ≤ 1024 := by
    unfold ringB at hr2
    rw [Bool.and_eq_true] at hr2
    have := inB_yes hr2.1
    omega
  obtain ⟨l2, u2⟩ := hn2
  clear hr2
  have K1 : Hid (∀ W b, Below w.heap.size w W → b < W.heap.size → W.cell? ⟨b, 0, none⟩ = some (.slice a1 n1 c1) → W.cell? ⟨b, 0 + 1, none⟩ = some (.int .i64 i1) → W.cell? ⟨b, 0 + 2, none⟩ = some (.slice a2 n2 c2) → W.cell? ⟨b, 0 + 3, none⟩ = some (.int .i64 i2) → W.cell? ⟨b, 0 + 4, none⟩ = some (.int .i64 k1) → W.cell? ⟨b, 0 + 5, none⟩ = some (.float .f32 f1_0) → W.cell? ⟨b, 0 + 6, none⟩ = some (.float .f32 f1_1) → W.cell? ⟨b, 0 + 7, none⟩ = some (.float .f32 f1_2) → W.cell? ⟨b, 0 + 8, none⟩ = some (.float .f32 f1_3) → W.cell? ⟨b, 0 + 9, none⟩ = some (.float .f32 f1_4) → W.cell? ⟨b, 0 + 10, none⟩ = some (.float .f32 x1) → W.cell? ⟨b, 0 + 11, none⟩ = some (.float .f32 x2) → Calls Try.prog 89 #[.pointer (some ⟨b, 0, none⟩)] W (RetV (.bool true) W)) := fun W b hW hb e0 e1 e2 e3 e4 e5 e6 e7 e8 e9 e10 e11 => hv ▸ c_l05Bow b 0 _ _ _ _ _ _ _ _ _ _ _ _ _ _ _ _ _ _ W (h_1.below hW (Nat.le_refl _)) (h_2.below hW (Nat.le_refl _)) hb e0 e1 e2 e3 e4 e5 e6 e7 e8 e9 e10 e11
  have K2 : Hid (∀ W b, Below w.heap.size w W → b < W.heap.size → W.cell? ⟨b, 0, none⟩ = some (.slice a1 n1 c1) → W.cell? ⟨b, 0 + 1, none⟩ = some (.int .i64 i1) → W.cell? ⟨b, 0 + 2, none⟩ = some (.slice a2 n2 c2) → W.cell? ⟨b, 0 + 3, none⟩ = some (.int .i64 i2) → W.cell? ⟨b, 0 + 4, none⟩ = some (.int .i64 k1) → W.cell? ⟨b, 0 + 5, none⟩ = some (.float .f32 f1_0) → W.cell? ⟨b, 0 + 6, none⟩ = some (.float .f32 f1_1) → W.cell? ⟨b, 0 + 7, none⟩ = some (.float .f32 f1_2) → W.cell? ⟨b, 0 + 8, none⟩ = some (.float .f32 f1_3) → W.cell? ⟨b, 0 + 9, none⟩ = some (.float .f32 f1_4) → W.cell? ⟨b, 0 + 10, none⟩ = some (.float .f32 x1) → W.cell? ⟨b, 0 + 11, none⟩ = some (.float .f32 x2) → Calls Try.prog 107 #[.pointer (some ⟨b, 0, none⟩)] W (fun e w' => ∃ g1 k_1 g2 k_2, e = .returned (.agg #[.slice (some ⟨g1, 0, none⟩) n1 k_1, .int .i64 i1, .slice (some ⟨g2, 0, none⟩) n2 k_2, .int .i64 i2, .int .i64 k1, .float .f32 f1_0, .float .f32 f1_1, .float .f32 f1_2, .float .f32 f1_3, .float .f32 f1_4, .float .f32 x1, .float .f32 x2]) ∧ Below W.heap.size W w')) := fun W b hW hb e0 e1 e2 e3 e4 e5 e6 e7 e8 e9 e10 e11 => c_l05CopyBow b 0 _ _ _ _ _ _ _ _ _ _ _ _ _ _ _ _ _ _ W (h_1.below hW (Nat.le_refl _)) (h_2.below hW (Nat.le_refl _)) l1 (by omega) l2 (by omega) hb e0 e1 e2 e3 e4 e5 e6 e7 e8 e9 e10 e11
  clear hv h_1 h_2
  go_enter Try.func54, Try.ntmps54
  go_wp2_with fail
  refine (K1.out _ _ (by (repeat (first | (with_reducible refine Below.drewN ?_) | (with_reducible refine Below.drew ?_) | ((with_reducible refine Below.alloc ?_ ?_ _); rotate_left; (first | omega | (simp <;> omega))) | ((with_reducible refine Below.setCell ?_ ?_ _); rotate_left; (first | omega | (simp <;> omega))) | ((with_reducible refine Below.setCells ?_ ?_ _); rotate_left; (first | omega | (simp <;> omega))) | (with_reducible exact Below.refl _ _) | (with_reducible assumption)))) (by first | (simp; done) | (simp; omega)) (by simp) (by simp) (by simp) (by simp) (by simp) (by simp) (by simp) (by simp) (by simp) (by simp) (by simp) (by simp)).mono ?_
  rintro e w1 ⟨rfl, hb1⟩
  obtain ⟨hc1, hf1, hz1⟩ := bcell hb1
  have hk1 := bblk hb1
  try simp at hz1
  try (have z1_0 : w.heap.size < w1.heap.size := by omega)
  try (have zz1_0 : w.heap.size < w1.heap.size + 1 := by omega)
  try (have z1_1 : w.heap.size + 1 < w1.heap.size := by omega)
  try (have zz1_1 : w.heap.size + 1 < w1.heap.size + 1 := by omega)
  have zl1 : w.heap.size ≤ w1.heap.size := by omega
  have b1 : Below w.heap.size w w1 := Below.trans (by (repeat (first | (with_reducible refine Below.drewN ?_) | (with_reducible refine Below.drew ?_) | ((with_reducible refine Below.alloc ?_ ?_ _); rotate_left; (first | omega | (simp <;> omega))) | ((with_reducible refine Below.setCell ?_ ?_ _); rotate_left; (first | omega | (simp <;> omega))) | ((with_reducible refine Below.setCells ?_ ?_ _); rotate_left; (first | omega | (simp <;> omega))) | (with_reducible exact Below.refl _ _) | (with_reducible assumption)))) (hb1.mono (by first | omega | (simp <;> omega) | (simp [size_setCells] <;> omega)))
  have hx1 : ∀ o, w1.cell? ⟨w.heap.size, o, none⟩ = (#[.slice a1 n1 c1, .int .i64 i1, .slice a2 n2 c2, .int .i64 i2, .int .i64 k1, .float .f32 f1_0, .float .f32 f1_1, .float .f32 f1_2, .float .f32 f1_3, .float .f32 f1_4, .float .f32 x1, .float .f32 x2] : Array Value)[o]? := fun o => (hb1.cell (p := ⟨w.heap.size, o, none⟩) (by first | omega | (simp; omega) | simp)).trans (by rw [cell_old _ _ _ _ (by simp), cell_new])
  go_wp2_with fail
  refine (K2.out _ _ (by (repeat (first | (with_reducible refine Below.drewN ?_) | (with_reducible refine Below.drew ?_) | ((with_reducible refine Below.alloc ?_ ?_ _); rotate_left; (first | omega | (simp <;> omega))) | ((with_reducible refine Below.setCell ?_ ?_ _); rotate_left; (first | omega | (simp <;> omega))) | ((with_reducible refine Below.setCells ?_ ?_ _); rotate_left; (first | omega | (simp <;> omega))) | (with_reducible exact Below.refl _ _) | (with_reducible assumption)))) (by omega) ((hx1 (0)).trans rfl) ((hx1 (0 + 1)).trans rfl) ((hx1 (0 + 2)).trans rfl) ((hx1 (0 + 3)).trans rfl) ((hx1 (0 + 4)).trans rfl) ((hx1 (0 + 5)).trans rfl) ((hx1 (0 + 6)).trans rfl) ((hx1 (0 + 7)).trans rfl) ((hx1 (0 + 8)).trans rfl) ((hx1 (0 + 9)).trans rfl) ((hx1 (0 + 10)).trans rfl) ((hx1 (0 + 11)).trans rfl)).mono ?_
  rintro e w2 ⟨p1, k_1, p2, k_2, rfl, hb2⟩
  obtain ⟨hc2, hf2, hz2⟩ := bcell hb2
  have hk2 := bblk hb2
  try simp at hz2
  try (have z2_0 : w.heap.size < w2.heap.size := by omega)
  try (have zz2_0 : w.heap.size < w2.heap.size + 1 := by omega)
  try (have z2_1 : w.heap.size + 1 < w2.heap.size := by omega)
  try (have zz2_1 : w.heap.size + 1 < w2.heap.size + 1 := by omega)
  have zl2 : w.heap.size ≤ w2.heap.size := by omega
  have b2 : Below w.heap.size w w2 := Below.trans (by (repeat (first | (with_reducible refine Below.drewN ?_) | (with_reducible refine Below.drew ?_) | ((with_reducible refine Below.alloc ?_ ?_ _); rotate_left; (first | omega | (simp <;> omega))) | ((with_reducible refine Below.setCell ?_ ?_ _); rotate_left; (first | omega | (simp <;> omega))) | ((with_reducible refine Below.setCells ?_ ?_ _); rotate_left; (first | omega | (simp <;> omega))) | (with_reducible exact Below.refl _ _) | (with_reducible assumption)))) (hb2.mono (by first | omega | (simp <;> omega) | (simp [size_setCells] <;> omega)))
  have hx2 : ∀ o, w2.cell? ⟨w.heap.size, o, none⟩ = (#[.slice a1 n1 c1, .int .i64 i1, .slice a2 n2 c2, .int .i64 i2, .int .i64 k1, .float .f32 f1_0, .float .f32 f1_1, .float .f32 f1_2, .float .f32 f1_3, .float .f32 f1_4, .float .f32 x1, .float .f32 x2] : Array Value)[o]? := fun o => (hb2.cell (p := ⟨w.heap.size, o, none⟩) (by first | omega | (simp; omega))).trans (hx1 o)
  go_wp2_with fail
  refine (c_l05Muted _ 0 a1 n1 c1 i1 _ (Nat.lt_of_lt_of_le z2_0 (show Below w2.heap.size w2 _ by (repeat (first | (with_reducible refine Below.drewN ?_) | (with_reducible refine Below.drew ?_) | ((with_reducible refine Below.alloc ?_ ?_ _); rotate_left; (first | omega | (simp <;> omega))) | ((with_reducible refine Below.setCell ?_ ?_ _); rotate_left; (first | omega | (simp <;> omega))) | ((with_reducible refine Below.setCells ?_ ?_ _); rotate_left; (first | omega | (simp <;> omega))) | (with_reducible exact Below.refl _ _) | (with_reducible assumption)))).size) (((show Below w2.heap.size w2 _ by (repeat (first | (with_reducible refine Below.drewN ?_) | (with_reducible refine Below.drew ?_) | ((with_reducible refine Below.alloc ?_ ?_ _); rotate_left; (first | omega | (simp <;> omega))) | ((with_reducible refine Below.setCell ?_ ?_ _); rotate_left; (first | omega | (simp <;> omega))) | ((with_reducible refine Below.setCells ?_ ?_ _); rotate_left; (first | omega | (simp <;> omega))) | (with_reducible exact Below.refl _ _) | (with_reducible assumption)))).cell (p := ⟨w.heap.size, 0, none⟩) z2_0).trans ((hx2 (0)).trans rfl)) (((show Below w2.heap.size w2 _ by (repeat (first | (with_reducible refine Below.drewN ?_) | (with_reducible refine Below.drew ?_) | ((with_reducible refine Below.alloc ?_ ?_ _); rotate_left; (first | omega | (simp <;> omega))) | ((with_reducible refine Below.setCell ?_ ?_ _); rotate_left; (first | omega | (simp <;> omega))) | ((with_reducible refine Below.setCells ?_ ?_ _); rotate_left; (first | omega | (simp <;> omega))) | (with_reducible exact Below.refl _ _) | (with_reducible assumption)))).cell (p := ⟨w.heap.size, 0 + 1, none⟩) z2_0).trans ((hx2 (0 + 1)).trans rfl)) (by omega)).mono ?_
  rintro e w3 ⟨g1, rfl, hb3, q1, r1, o1_3⟩
  rw [setCells_alloc, writeAt_all (by rfl)] at hb3
  try simp [size_setCells] at q1
  have hy3 : w2.heap.size ≤ w3.heap.size := Nat.le_trans (show Below w2.heap.size w2 _ by (repeat (first | (with_reducible refine Below.drewN ?_) | (with_reducible refine Below.drew ?_) | ((with_reducible refine Below.alloc ?_ ?_ _); rotate_left; (first | omega | (simp <;> omega))) | ((with_reducible refine Below.setCell ?_ ?_ _); rotate_left; (first | omega | (simp <;> omega))) | ((with_reducible refine Below.setCells ?_ ?_ _); rotate_left; (first | omega | (simp <;> omega))) | (with_reducible exact Below.refl _ _) | (with_reducible assumption)))).size hb3.size
  have hyy3 : w2.heap.size < w3.heap.size := by
    have hs := hb3.size
    simp [size_setCells] at hs
    omega
  obtain ⟨hc3, hf3, hz3⟩ := bcell hb3
  have hk3 := bblk hb3
  try simp at hz3
  try (have z3_0 : w.heap.size < w3.heap.size := by omega)
  try (have zz3_0 : w.heap.size < w3.heap.size + 1 := by omega)
  try (have z3_1 : w.heap.size + 1 < w3.heap.size := by omega)
  try (have zz3_1 : w.heap.size + 1 < w3.heap.size + 1 := by omega)
  try (have z3_2 : w2.heap.size < w3.heap.size := by omega)
  try (have zz3_2 : w2.heap.size < w3.heap.size + 1 := by omega)
  have zl3 : w.heap.size ≤ w3.heap.size := by omega
  have b3 : Below w.heap.size w w3 := Below.trans (by (repeat (first | (with_reducible refine Below.drewN ?_) | (with_reducible refine Below.drew ?_) | ((with_reducible refine Below.alloc ?_ ?_ _); rotate_left; (first | omega | (simp <;> omega))) | ((with_reducible refine Below.setCell ?_ ?_ _); rotate_left; (first | omega | (simp <;> omega))) | ((with_reducible refine Below.setCells ?_ ?_ _); rotate_left; (first | omega | (simp <;> omega))) | (with_reducible exact Below.refl _ _) | (with_reducible assumption)))) (hb3.mono (by first | omega | (simp <;> omega) | (simp [size_setCells] <;> omega)))
  have hx3 : ∀ o, w3.cell? ⟨w.heap.size, o, none⟩ = (#[.slice a1 n1 c1, .int .i64 i1, .slice a2 n2 c2, .int .i64 i2, .int .i64 k1, .float .f32 f1_0, .float .f32 f1_1, .float .f32 f1_2, .float .f32 f1_3, .float .f32 f1_4, .float .f32 x1, .float .f32 x2] : Array Value)[o]? := fun o => (hb3.cell (p := ⟨w.heap.size, o, none⟩) (Nat.lt_of_lt_of_le z2_0 (show Below w2.heap.size w2 _ by (repeat (first | (with_reducible refine Below.drewN ?_) | (with_reducible refine Below.drew ?_) | ((with_reducible refine Below.alloc ?_ ?_ _); rotate_left; (first | omega | (simp <;> omega))) | ((with_reducible refine Below.setCell ?_ ?_ _); rotate_left; (first | omega | (simp <;> omega))) | ((with_reducible refine Below.setCells ?_ ?_ _); rotate_left; (first | omega | (simp <;> omega))) | (with_reducible exact Below.refl _ _) | (with_reducible assumption)))).size)).trans (((show Below w2.heap.size w2 _ by (repeat (first | (with_reducible refine Below.drewN ?_) | (with_reducible refine Below.drew ?_) | ((with_reducible refine Below.alloc ?_ ?_ _); rotate_left; (first | omega | (simp <;> omega))) | ((with_reducible refine Below.setCell ?_ ?_ _); rotate_left; (first | omega | (simp <;> omega))) | ((with_reducible refine Below.setCells ?_ ?_ _); rotate_left; (first | omega | (simp <;> omega))) | (with_reducible exact Below.refl _ _) | (with_reducible assumption)))).cell (p := ⟨w.heap.size, o, none⟩) z2_0).trans (hx2 o))
  go_wp2_with fail
  refine (c_l05Muted _ 2 a2 n2 c2 i2 _ (Nat.lt_of_lt_of_le z3_0 (show Below w2.heap.size w3 _ by (repeat (first | (with_reducible refine Below.drewN ?_) | (with_reducible refine Below.drew ?_) | ((with_reducible refine Below.alloc ?_ ?_ _); rotate_left; (first | omega | (simp <;> omega))) | ((with_reducible refine Below.setCell ?_ ?_ _); rotate_left; (first | omega | (simp <;> omega))) | ((with_reducible refine Below.setCells ?_ ?_ _); rotate_left; (first | omega | (simp <;> omega))) | (with_reducible exact Below.refl _ _) | (with_reducible assumption)))).size) (((show Below w2.heap.size w3 _ by (repeat (first | (with_reducible refine Below.drewN ?_) | (with_reducible refine Below.drew ?_) | ((with_reducible refine Below.alloc ?_ ?_ _); rotate_left; (first | omega | (simp <;> omega))) | ((with_reducible refine Below.setCell ?_ ?_ _); rotate_left; (first | omega | (simp <;> omega))) | ((with_reducible refine Below.setCells ?_ ?_ _); rotate_left; (first | omega | (simp <;> omega))) | (with_reducible exact Below.refl _ _) | (with_reducible assumption)))).cell (p := ⟨w.heap.size, 2, none⟩) z2_0).trans ((hx3 (2)).trans rfl)) (((show Below w2.heap.size w3 _ by (repeat (first | (with_reducible refine Below.drewN ?_) | (with_reducible refine Below.drew ?_) | ((with_reducible refine Below.alloc ?_ ?_ _); rotate_left; (first | omega | (simp <;> omega))) | ((with_reducible refine Below.setCell ?_ ?_ _); rotate_left; (first | omega | (simp <;> omega))) | ((with_reducible refine Below.setCells ?_ ?_ _); rotate_left; (first | omega | (simp <;> omega))) | (with_reducible exact Below.refl _ _) | (with_reducible assumption)))).cell (p := ⟨w.heap.size, 2 + 1, none⟩) z2_0).trans ((hx3 (2 + 1)).trans rfl)) (by omega)).mono ?_
  rintro e w4 ⟨g2, rfl, hb4, q2, r2, o2_4⟩
  try simp [size_setCells] at q2
  have hy4 : w3.heap.size ≤ w4.heap.size := Nat.le_trans (show Below w2.heap.size w3 _ by (repeat (first | (with_reducible refine Below.drewN ?_) | (with_reducible refine Below.drew ?_) | ((with_reducible refine Below.alloc ?_ ?_ _); rotate_left; (first | omega | (simp <;> omega))) | ((with_reducible refine Below.setCell ?_ ?_ _); rotate_left; (first | omega | (simp <;> omega))) | ((with_reducible refine Below.setCells ?_ ?_ _); rotate_left; (first | omega | (simp <;> omega))) | (with_reducible exact Below.refl _ _) | (with_reducible assumption)))).size hb4.size
  have hyy4 : w2.heap.size < w4.heap.size := by
    have hs := hb4.size
    simp [size_setCells] at hs
    omega
  obtain ⟨hc4, hf4, hz4⟩ := bcell hb4
  have hk4 := bblk hb4
  try simp at hz4
  try (have z4_0 : w.heap.size < w4.heap.size := by omega)
  try (have zz4_0 : w.heap.size < w4.heap.size + 1 := by omega)
  try (have z4_1 : w.heap.size + 1 < w4.heap.size := by omega)
  try (have zz4_1 : w.heap.size + 1 < w4.heap.size + 1 := by omega)
  try (have z4_2 : w2.heap.size < w4.heap.size := by omega)
  try (have zz4_2 : w2.heap.size < w4.heap.size + 1 := by omega)
  have zl4 : w.heap.size ≤ w4.heap.size := by omega
  have b4 : Below w.heap.size w w4 := Below.trans (by (repeat (first | (with_reducible refine Below.drewN ?_) | (with_reducible refine Below.drew ?_) | ((with_reducible refine Below.alloc ?_ ?_ _); rotate_left; (first | omega | (simp <;> omega))) | ((with_reducible refine Below.setCell ?_ ?_ _); rotate_left; (first | omega | (simp <;> omega))) | ((with_reducible refine Below.setCells ?_ ?_ _); rotate_left; (first | omega | (simp <;> omega))) | (with_reducible exact Below.refl _ _) | (with_reducible assumption)))) (hb4.mono (by first | omega | (simp <;> omega) | (simp [size_setCells] <;> omega)))
  have hx4 : ∀ o, w4.cell? ⟨w.heap.size, o, none⟩ = (#[.slice a1 n1 c1, .int .i64 i1, .slice a2 n2 c2, .int .i64 i2, .int .i64 k1, .float .f32 f1_0, .float .f32 f1_1, .float .f32 f1_2, .float .f32 f1_3, .float .f32 f1_4, .float .f32 x1, .float .f32 x2] : Array Value)[o]? := fun o => (hb4.cell (p := ⟨w.heap.size, o, none⟩) (Nat.lt_of_lt_of_le z3_0 (show Below w2.heap.size w3 _ by (repeat (first | (with_reducible refine Below.drewN ?_) | (with_reducible refine Below.drew ?_) | ((with_reducible refine Below.alloc ?_ ?_ _); rotate_left; (first | omega | (simp <;> omega))) | ((with_reducible refine Below.setCell ?_ ?_ _); rotate_left; (first | omega | (simp <;> omega))) | ((with_reducible refine Below.setCells ?_ ?_ _); rotate_left; (first | omega | (simp <;> omega))) | (with_reducible exact Below.refl _ _) | (with_reducible assumption)))).size)).trans (((show Below w2.heap.size w3 _ by (repeat (first | (with_reducible refine Below.drewN ?_) | (with_reducible refine Below.drew ?_) | ((with_reducible refine Below.alloc ?_ ?_ _); rotate_left; (first | omega | (simp <;> omega))) | ((with_reducible refine Below.setCell ?_ ?_ _); rotate_left; (first | omega | (simp <;> omega))) | ((with_reducible refine Below.setCells ?_ ?_ _); rotate_left; (first | omega | (simp <;> omega))) | (with_reducible exact Below.refl _ _) | (with_reducible assumption)))).cell (p := ⟨w.heap.size, o, none⟩) z2_0).trans (hx3 o))
  have o1_4 := OF.below (g := g1) (a := some ⟨g1, 0, none⟩) (n := n1) (c := n1) (xs := List.replicate n1 0) (by (repeat (first | (with_reducible assumption) | (with_reducible refine OF.draw ?_) | (with_reducible exact OF.made' (by simp) (by simp) (by omega)) | (with_reducible refine OF.alloc ?_ _) | ((with_reducible refine OF.setCells ?_ ?_ _); rotate_left; (first | omega | (simp <;> omega))) | ((with_reducible refine OF.setCell ?_ ?_ _); rotate_left; (first | omega | (simp <;> omega)))))) hb4 (Nat.le_refl _)
  clear o1_3
  have hne : w.heap.size + 1 ≠ w2.heap.size := by omega
  have hr1 : blkAt w1 (w.heap.size + 1) = some (.cells #[.slice none 0 0, .int .i64 0, .slice none 0 0, .int .i64 0, .int .i64 0, .float .f32 0, .float .f32 0, .float .f32 0, .float .f32 0, .float .f32 0, .float .f32 0, .float .f32 0] 44) := (hk1 _ (by simp)).trans (blk_alloc_at _ _ _ (by simp))
  have hr2 : blkAt w2 (w.heap.size + 1) = some (.cells #[.slice none 0 0, .int .i64 0, .slice none 0 0, .int .i64 0, .int .i64 0, .float .f32 0, .float .f32 0, .float .f32 0, .float .f32 0, .float .f32 0, .float .f32 0, .float .f32 0] 44) := (hk2 _ z1_1).trans hr1
  have hr3 : blkAt w3 (w.heap.size + 1) = some (.cells #[.slice none 0 0, .int .i64 0, .slice none 0 0, .int .i64 0, .int .i64 0, .float .f32 0, .float .f32 0, .float .f32 0, .float .f32 0, .float .f32 0, .float .f32 0, .float .f32 0] 44) := (hk3 _ (by simp; omega)).trans ((blk_alloc_ne _ _ _ z2_1).trans hr2)
  have hr4 : blkAt w4 (w.heap.size + 1) = some (.cells #[.slice none 0 0, .int .i64 0, .slice none 0 0, .int .i64 0, .int .i64 0, .float .f32 0, .float .f32 0, .float .f32 0, .float .f32 0, .float .f32 0, .float .f32 0, .float .f32 0] 44) := (hk4 _ (by simp; omega)).trans (((blk_set _ _ _ _ _ hne).trans (blk_set _ _ _ _ _ hne)).trans hr3)
  go_wp2
  refine bodyPost_ret (v := .tuple #[.agg #[.slice (some ⟨g1, 0, none⟩) n1 n1, .int .i64 i1, .slice (some ⟨g2, 0, none⟩) n2 n2, .int .i64 i2, .int .i64 k1, .float .f32 f1_0, .float .f32 f1_1, .float .f32 f1_2, .float .f32 0, .float .f32 0, .float .f32 x1, .float .f32 x2], .int .i64 0]) (by simp [results, Try.results54, go_sem, *] <;> rfl) rfl ?_
  exact ⟨some ⟨g1, 0, none⟩, some ⟨g2, 0, none⟩, n1, n2, g1, g2, 0, 0, 0, 0, 0, 0, 0, rfl, by (repeat (first | (with_reducible refine Below.drewN ?_) | (with_reducible refine Below.drew ?_) | ((with_reducible refine Below.alloc ?_ ?_ _); rotate_left; (first | omega | (simp <;> omega))) | ((with_reducible refine Below.setCell ?_ ?_ _); rotate_left; (first | omega | (simp <;> omega))) | ((with_reducible refine Below.setCells ?_ ?_ _); rotate_left; (first | omega | (simp <;> omega))) | (with_reducible exact Below.refl _ _) | (with_reducible assumption))), fun _ => ⟨by omega, by (first | omega | (simp [size_setCells]; omega))⟩, fun _ => ⟨by omega, by (first | omega | (simp [size_setCells]; omega))⟩, by omega, by (repeat (first | (with_reducible assumption) | (with_reducible refine OF.draw ?_) | (with_reducible exact OF.made' (by simp) (by simp) (by omega)) | (with_reducible refine OF.alloc ?_ _) | ((with_reducible refine OF.setCells ?_ ?_ _); rotate_left; (first | omega | (simp <;> omega))) | ((with_reducible refine OF.setCell ?_ ?_ _); rotate_left; (first | omega | (simp <;> omega))))), by (repeat (first | (with_reducible assumption) | (with_reducible refine OF.draw ?_) | (with_reducible exact OF.made' (by simp) (by simp) (by omega)) | (with_reducible refine OF.alloc ?_ _) | ((with_reducible refine OF.setCells ?_ ?_ _); rotate_left; (first | omega | (simp <;> omega))) | ((with_reducible refine OF.setCell ?_ ?_ _); rotate_left; (first | omega | (simp <;> omega)))))⟩


end Go.Proofs.Ytbkafmikaojclaa
