
/-
Contracts of the reference's test whether Jets are silent.
-/
import Derived.Test.YtbkafmikaojclaaSc
import Derived.Test.YtbkafmikaojclaaJs
import Derived.Test.YtbkafmikaojclaaBq
namespace Go.Proofs.Ytbkafmikaojclaa
open Go Go.RowKit Fl
set_option maxHeartbeats 1000000 in
theorem c_sIsSilentJet_ok (a1 : Option Addr) (n1 c1 : Nat) (xs1 : List Nat) (i1 : Int) (a2 : Option Addr) (n2 c2 : Nat) (xs2 : List Nat) (i2 : Int) (k1 : Int) (f1_0 f1_1 f1_2 f1_3 f1_4 : Nat) (k2 : Int) (f2_0 f2_1 f2_2 f2_3 f2_4 : Nat) (x1 : Nat) (x2 : Nat) (w : World) (h_1 : FS w a1 n1 c1 xs1) (h_2 : FS w a2 n2 c2 xs2) (hv : valJet n1 xs1 i1 n2 xs2 i2 k1 f1_0 f1_1 f1_2 f1_3 f1_4 k2 f2_0 f2_1 f2_2 f2_3 f2_4 x1 x2 = true) :
    Calls Try.prog 52 #[.agg #[.slice a1 n1 c1, .int .i64 i1, .slice a2 n2 c2, .int .i64 i2, .int .i64 k1, .float .f32 f1_0, .float .f32 f1_1, .float .f32 f1_2, .float .f32 f1_3, .float .f32 f1_4, .int .i64 k2, .float .f32 f2_0, .float .f32 f2_1, .float .f32 f2_2, .float .f32 f2_3, .float .f32 f2_4, .float .f32 x1, .float .f32 x2]] w (RetV (.tuple #[.bool ((((zeroTo xs1 n1) && (zeroTo xs2 n2)) && (stillB f1_3 f1_4)) && (stillB f2_3 f2_4)), .int .i64 0]) w) := by
  have K1 : Hid (∀ W b, Below w.heap.size w W → b < W.heap.size → W.cell? ⟨b, 0, none⟩ = some (.slice a1 n1 c1) → W.cell? ⟨b, 0 + 1, none⟩ = some (.int .i64 i1) → W.cell? ⟨b, 0 + 2, none⟩ = some (.slice a2 n2 c2) → W.cell? ⟨b, 0 + 3, none⟩ = some (.int .i64 i2) → W.cell? ⟨b, 0 + 4, none⟩ = some (.int .i64 k1) → W.cell? ⟨b, 0 + 5, none⟩ = some (.float .f32 f1_0) → W.cell? ⟨b, 0 + 6, none⟩ = some (.float .f32 f1_1) → W.cell? ⟨b, 0 + 7, none⟩ = some (.float .f32 f1_2) → W.cell? ⟨b, 0 + 8, none⟩ = some (.float .f32 f1_3) → W.cell? ⟨b, 0 + 9, none⟩ = some (.float .f32 f1_4) → W.cell? ⟨b, 0 + 10, none⟩ = some (.int .i64 k2) → W.cell? ⟨b, 0 + 11, none⟩ = some (.float .f32 f2_0) → W.cell? ⟨b, 0 + 12, none⟩ = some (.float .f32 f2_1) → W.cell? ⟨b, 0 + 13, none⟩ = some (.float .f32 f2_2) → W.cell? ⟨b, 0 + 14, none⟩ = some (.float .f32 f2_3) → W.cell? ⟨b, 0 + 15, none⟩ = some (.float .f32 f2_4) → W.cell? ⟨b, 0 + 16, none⟩ = some (.float .f32 x1) → W.cell? ⟨b, 0 + 17, none⟩ = some (.float .f32 x2) → Calls Try.prog 93 #[.pointer (some ⟨b, 0, none⟩)] W (RetV (.bool true) W)) := fun W b hW hb e0 e1 e2 e3 e4 e5 e6 e7 e8 e9 e10 e11 e12 e13 e14 e15 e16 e17 => hv ▸ c_l05Jet b 0 _ _ _ _ _ _ _ _ _ _ _ _ _ _ _ _ _ _ _ _ _ _ _ _ W (h_1.below hW (Nat.le_refl _)) (h_2.below hW (Nat.le_refl _)) hb e0 e1 e2 e3 e4 e5 e6 e7 e8 e9 e10 e11 e12 e13 e14 e15 e16 e17
  have K2 : Hid (∀ W g, Below w.heap.size w W → W.heap[g]? = some (.cells #[.slice a1 n1 c1, .int .i64 i1, .slice a2 n2 c2, .int .i64 i2] 25) → Calls Try.prog 103 #[.slice (some ⟨g, 0, none⟩) 2 2] W (RetB ((zeroTo xs1 n1) && (zeroTo xs2 n2)) W)) := fun W g hW hg => c_zero2 W g _ _ _ _ _ _ _ _ _ _ (h_1.below hW (Nat.le_refl _)) (h_2.below hW (Nat.le_refl _)) hg
  have K3 : Hid (∀ W b, W.cell? ⟨b, 8, none⟩ = some (.float .f32 f1_3) → W.cell? ⟨b, 9, none⟩ = some (.float .f32 f1_4) → Calls Try.prog 104 #[.pointer (some ⟨b, 4, none⟩)] W (RetB (stillB f1_3 f1_4) W)) := fun W b h0 h1 => c_l02Still b 4 _ _ W h0 h1
  have K4 : Hid (∀ W b, W.cell? ⟨b, 14, none⟩ = some (.float .f32 f2_3) → W.cell? ⟨b, 15, none⟩ = some (.float .f32 f2_4) → Calls Try.prog 104 #[.pointer (some ⟨b, 10, none⟩)] W (RetB (stillB f2_3 f2_4) W)) := fun W b h0 h1 => c_l02Still b 10 _ _ W h0 h1
  clear hv h_1 h_2
  rcases (Bool.eq_false_or_eq_true ((zeroTo xs1 n1) && (zeroTo xs2 n2))).symm with h2 | h2
  · rw [h2] at K2
    have e : ((((zeroTo xs1 n1) && (zeroTo xs2 n2)) && (stillB f1_3 f1_4)) && (stillB f2_3 f2_4)) = false := by rw [h2]; simp
    rw [e]
    clear e h2
    go_enter Try.func52, Try.ntmps52
    go_wp2_with fail
    refine (K1.out _ _ (by (repeat (first | (with_reducible refine Below.drewN ?_) | (with_reducible refine Below.drew ?_) | ((with_reducible refine Below.alloc ?_ ?_ _); rotate_left; (first | omega | (simp <;> omega))) | ((with_reducible refine Below.setCell ?_ ?_ _); rotate_left; (first | omega | (simp <;> omega))) | (with_reducible exact Below.refl _ _) | (with_reducible assumption)))) (by simp) (by simp) (by simp) (by simp) (by simp) (by simp) (by simp) (by simp) (by simp) (by simp) (by simp) (by simp) (by simp) (by simp) (by simp) (by simp) (by simp) (by simp) (by simp)).mono ?_
    rintro e w1 ⟨rfl, hb1⟩
    obtain ⟨hc1, hf1, hz1⟩ := bcell hb1
    try simp at hz1
    have zb1 : w.heap.size ≤ w1.heap.size := by omega
    try (have z1_0 : w.heap.size < w1.heap.size := by omega)
    try (have z1_1 : w.heap.size + 1 < w1.heap.size := by omega)
    try (have z1_2 : w.heap.size + 1 + 1 < w1.heap.size := by omega)
    try (have z1_3 : w.heap.size + 1 + 1 + 1 < w1.heap.size := by omega)
    have b1 : Below w.heap.size w w1 := Below.trans (by (repeat (first | (with_reducible refine Below.drewN ?_) | (with_reducible refine Below.drew ?_) | ((with_reducible refine Below.alloc ?_ ?_ _); rotate_left; (first | omega | (simp <;> omega))) | ((with_reducible refine Below.setCell ?_ ?_ _); rotate_left; (first | omega | (simp <;> omega))) | (with_reducible exact Below.refl _ _) | (with_reducible assumption)))) (hb1.mono (by first | omega | (simp <;> omega)))
    go_wp2_with fail
    refine (K2.out _ _ (by (repeat (first | (with_reducible refine Below.drewN ?_) | (with_reducible refine Below.drew ?_) | ((with_reducible refine Below.alloc ?_ ?_ _); rotate_left; (first | omega | (simp <;> omega))) | ((with_reducible refine Below.setCell ?_ ?_ _); rotate_left; (first | omega | (simp <;> omega))) | (with_reducible exact Below.refl _ _) | (with_reducible assumption)))) (by first | exact (MapKept.heap_alloc _ _).1 | simp)).mono ?_
    rintro e w' ⟨rfl, dq2, rfl⟩
    go_wp2
    go_ret2
    exact ⟨rfl, by (repeat (first | (with_reducible refine Below.drewN ?_) | (with_reducible refine Below.drew ?_) | ((with_reducible refine Below.alloc ?_ ?_ _); rotate_left; (first | omega | (simp <;> omega))) | ((with_reducible refine Below.setCell ?_ ?_ _); rotate_left; (first | omega | (simp <;> omega))) | (with_reducible exact Below.refl _ _) | (with_reducible assumption)))⟩

  rw [h2] at K2
  rcases (Bool.eq_false_or_eq_true (stillB f1_3 f1_4)).symm with h3 | h3
  · rw [h3] at K3
    have e : ((((zeroTo xs1 n1) && (zeroTo xs2 n2)) && (stillB f1_3 f1_4)) && (stillB f2_3 f2_4)) = false := by rw [h2, h3]; simp
    rw [e]
    clear e h2 h3
    go_enter Try.func52, Try.ntmps52
    go_wp2_with fail
    refine (K1.out _ _ (by (repeat (first | (with_reducible refine Below.drewN ?_) | (with_reducible refine Below.drew ?_) | ((with_reducible refine Below.alloc ?_ ?_ _); rotate_left; (first | omega | (simp <;> omega))) | ((with_reducible refine Below.setCell ?_ ?_ _); rotate_left; (first | omega | (simp <;> omega))) | (with_reducible exact Below.refl _ _) | (with_reducible assumption)))) (by simp) (by simp) (by simp) (by simp) (by simp) (by simp) (by simp) (by simp) (by simp) (by simp) (by simp) (by simp) (by simp) (by simp) (by simp) (by simp) (by simp) (by simp) (by simp)).mono ?_
    rintro e w1 ⟨rfl, hb1⟩
    obtain ⟨hc1, hf1, hz1⟩ := bcell hb1
    try simp at hz1
    have zb1 : w.heap.size ≤ w1.heap.size := by omega
    try (have z1_0 : w.heap.size < w1.heap.size := by omega)
    try (have z1_1 : w.heap.size + 1 < w1.heap.size := by omega)
    try (have z1_2 : w.heap.size + 1 + 1 < w1.heap.size := by omega)
    try (have z1_3 : w.heap.size + 1 + 1 + 1 < w1.heap.size := by omega)
    have b1 : Below w.heap.size w w1 := Below.trans (by (repeat (first | (with_reducible refine Below.drewN ?_) | (with_reducible refine Below.drew ?_) | ((with_reducible refine Below.alloc ?_ ?_ _); rotate_left; (first | omega | (simp <;> omega))) | ((with_reducible refine Below.setCell ?_ ?_ _); rotate_left; (first | omega | (simp <;> omega))) | (with_reducible exact Below.refl _ _) | (with_reducible assumption)))) (hb1.mono (by first | omega | (simp <;> omega)))
    go_wp2_with fail
    refine (K2.out _ _ (by (repeat (first | (with_reducible refine Below.drewN ?_) | (with_reducible refine Below.drew ?_) | ((with_reducible refine Below.alloc ?_ ?_ _); rotate_left; (first | omega | (simp <;> omega))) | ((with_reducible refine Below.setCell ?_ ?_ _); rotate_left; (first | omega | (simp <;> omega))) | (with_reducible exact Below.refl _ _) | (with_reducible assumption)))) (by first | exact (MapKept.heap_alloc _ _).1 | simp)).mono ?_
    rintro e w' ⟨rfl, dq2, rfl⟩
    go_wp2_with fail
    refine (K3.out _ _ (by first | (simp [*]; done) | (show World.cell? (World.alloc _ _) _ = _; rw [cell_old _ _ _ _ (by omega), hc1 _ _ (by simp)]; simp)) (by first | (simp [*]; done) | (show World.cell? (World.alloc _ _) _ = _; rw [cell_old _ _ _ _ (by omega), hc1 _ _ (by simp)]; simp))).mono ?_
    rintro e w' ⟨rfl, dq3, rfl⟩
    go_wp2
    go_ret2
    exact ⟨rfl, by (repeat (first | (with_reducible refine Below.drewN ?_) | (with_reducible refine Below.drew ?_) | ((with_reducible refine Below.alloc ?_ ?_ _); rotate_left; (first | omega | (simp <;> omega))) | ((with_reducible refine Below.setCell ?_ ?_ _); rotate_left; (first | omega | (simp <;> omega))) | (with_reducible exact Below.refl _ _) | (with_reducible assumption)))⟩

  rw [h3] at K3
  have e : ((((zeroTo xs1 n1) && (zeroTo xs2 n2)) && (stillB f1_3 f1_4)) && (stillB f2_3 f2_4)) = (stillB f2_3 f2_4) := by rw [h2, h3]; simp
  rw [e]
  clear e h2 h3
  go_enter Try.func52, Try.ntmps52
  go_wp2_with fail
  refine (K1.out _ _ (by (repeat (first | (with_reducible refine Below.drewN ?_) | (with_reducible refine Below.drew ?_) | ((with_reducible refine Below.alloc ?_ ?_ _); rotate_left; (first | omega | (simp <;> omega))) | ((with_reducible refine Below.setCell ?_ ?_ _); rotate_left; (first | omega | (simp <;> omega))) | (with_reducible exact Below.refl _ _) | (with_reducible assumption)))) (by simp) (by simp) (by simp) (by simp) (by simp) (by simp) (by simp) (by simp) (by simp) (by simp) (by simp) (by simp) (by simp) (by simp) (by simp) (by simp) (by simp) (by simp) (by simp)).mono ?_
  rintro e w1 ⟨rfl, hb1⟩
  obtain ⟨hc1, hf1, hz1⟩ := bcell hb1
  try simp at hz1
  have zb1 : w.heap.size ≤ w1.heap.size := by omega
  try (have z1_0 : w.heap.size < w1.heap.size := by omega)
  try (have z1_1 : w.heap.size + 1 < w1.heap.size := by omega)
  try (have z1_2 : w.heap.size + 1 + 1 < w1.heap.size := by omega)
  try (have z1_3 : w.heap.size + 1 + 1 + 1 < w1.heap.size := by omega)
  have b1 : Below w.heap.size w w1 := Below.trans (by (repeat (first | (with_reducible refine Below.drewN ?_) | (with_reducible refine Below.drew ?_) | ((with_reducible refine Below.alloc ?_ ?_ _); rotate_left; (first | omega | (simp <;> omega))) | ((with_reducible refine Below.setCell ?_ ?_ _); rotate_left; (first | omega | (simp <;> omega))) | (with_reducible exact Below.refl _ _) | (with_reducible assumption)))) (hb1.mono (by first | omega | (simp <;> omega)))
  go_wp2_with fail
  refine (K2.out _ _ (by (repeat (first | (with_reducible refine Below.drewN ?_) | (with_reducible refine Below.drew ?_) | ((with_reducible refine Below.alloc ?_ ?_ _); rotate_left; (first | omega | (simp <;> omega))) | ((with_reducible refine Below.setCell ?_ ?_ _); rotate_left; (first | omega | (simp <;> omega))) | (with_reducible exact Below.refl _ _) | (with_reducible assumption)))) (by first | exact (MapKept.heap_alloc _ _).1 | simp)).mono ?_
  rintro e w' ⟨rfl, dq2, rfl⟩
  go_wp2_with fail
  refine (K3.out _ _ (by first | (simp [*]; done) | (show World.cell? (World.alloc _ _) _ = _; rw [cell_old _ _ _ _ (by omega), hc1 _ _ (by simp)]; simp)) (by first | (simp [*]; done) | (show World.cell? (World.alloc _ _) _ = _; rw [cell_old _ _ _ _ (by omega), hc1 _ _ (by simp)]; simp))).mono ?_
  rintro e w' ⟨rfl, dq3, rfl⟩
  go_wp2_with fail
  refine (K4.out _ _ (by first | (simp [*]; done) | (show World.cell? (World.alloc _ _) _ = _; rw [cell_old _ _ _ _ (by omega), hc1 _ _ (by simp)]; simp)) (by first | (simp [*]; done) | (show World.cell? (World.alloc _ _) _ = _; rw [cell_old _ _ _ _ (by omega), hc1 _ _ (by simp)]; simp))).mono ?_
  rintro e w' ⟨rfl, dq4, rfl⟩
  go_wp2
  go_ret2
  exact ⟨rfl, by (repeat (first | (with_reducible refine Below.drewN ?_) | (with_reducible refine Below.drew ?_) | ((with_reducible refine Below.alloc ?_ ?_ _); rotate_left; (first | omega | (simp <;> omega))) | ((with_reducible refine Below.setCell ?_ ?_ _); rotate_left; (first | omega | (simp <;> omega))) | (with_reducible exact Below.refl _ _) | (with_reducible assumption)))⟩

set_option maxHeartbeats 1000000 in
theorem c_sIsSilentJet_no (a1 : Option Addr) (n1 c1 : Nat) (xs1 : List Nat) (i1 : Int) (a2 : Option Addr) (n2 c2 : Nat) (xs2 : List Nat) (i2 : Int) (k1 : Int) (f1_0 f1_1 f1_2 f1_3 f1_4 : Nat) (k2 : Int) (f2_0 f2_1 f2_2 f2_3 f2_4 : Nat) (x1 : Nat) (x2 : Nat) (w : World) (h_1 : FS w a1 n1 c1 xs1) (h_2 : FS w a2 n2 c2 xs2) (hv : valJet n1 xs1 i1 n2 xs2 i2 k1 f1_0 f1_1 f1_2 f1_3 f1_4 k2 f2_0 f2_1 f2_2 f2_3 f2_4 x1 x2 = false) :
    Calls Try.prog 52 #[.agg #[.slice a1 n1 c1, .int .i64 i1, .slice a2 n2 c2, .int .i64 i2, .int .i64 k1, .float .f32 f1_0, .float .f32 f1_1, .float .f32 f1_2, .float .f32 f1_3, .float .f32 f1_4, .int .i64 k2, .float .f32 f2_0, .float .f32 f2_1, .float .f32 f2_2, .float .f32 f2_3, .float .f32 f2_4, .float .f32 x1, .float .f32 x2]] w (RetV (.tuple #[.bool false, .int .i64 1]) w) := by
  have K1 : Hid (∀ W b, Below w.heap.size w W → b < W.heap.size → W.cell? ⟨b, 0, none⟩ = some (.slice a1 n1 c1) → W.cell? ⟨b, 0 + 1, none⟩ = some (.int .i64 i1) → W.cell? ⟨b, 0 + 2, none⟩ = some (.slice a2 n2 c2) → W.cell? ⟨b, 0 + 3, none⟩ = some (.int .i64 i2) → W.cell? ⟨b, 0 + 4, none⟩ = some (.int .i64 k1) → W.cell? ⟨b, 0 + 5, none⟩ = some (.float .f32 f1_0) → W.cell? ⟨b, 0 + 6, none⟩ = some (.float .f32 f1_1) → W.cell? ⟨b, 0 + 7, none⟩ = some (.float .f32 f1_2) → W.cell? ⟨b, 0 + 8, none⟩ = some (.float .f32 f1_3) → W.cell? ⟨b, 0 + 9, none⟩ = some (.float .f32 f1_4) → W.cell? ⟨b, 0 + 10, none⟩ = some (.int .i64 k2) → W.cell? ⟨b, 0 + 11, none⟩ = some (.float .f32 f2_0) → W.cell? ⟨b, 0 + 12, none⟩ = some (.float .f32 f2_1) → W.cell? ⟨b, 0 + 13, none⟩ = some (.float .f32 f2_2) → W.cell? ⟨b, 0 + 14, none⟩ = some (.float .f32 f2_3) → W.cell? ⟨b, 0 + 15, none⟩ = some (.float .f32 f2_4) → W.cell? ⟨b, 0 + 16, none⟩ = some (.float .f32 x1) → W.cell? ⟨b, 0 + 17, none⟩ = some (.float .f32 x2) → Calls Try.prog 93 #[.pointer (some ⟨b, 0, none⟩)] W (RetV (.bool false) W)) := fun W b hW hb e0 e1 e2 e3 e4 e5 e6 e7 e8 e9 e10 e11 e12 e13 e14 e15 e16 e17 => hv ▸ c_l05Jet b 0 _ _ _ _ _ _ _ _ _ _ _ _ _ _ _ _ _ _ _ _ _ _ _ _ W (h_1.below hW (Nat.le_refl _)) (h_2.below hW (Nat.le_refl _)) hb e0 e1 e2 e3 e4 e5 e6 e7 e8 e9 e10 e11 e12 e13 e14 e15 e16 e17
  clear hv h_1 h_2
  go_enter Try.func52, Try.ntmps52
  go_wp2_with fail
  refine (K1.out _ _ (by (repeat (first | (with_reducible refine Below.drewN ?_) | (with_reducible refine Below.drew ?_) | ((with_reducible refine Below.alloc ?_ ?_ _); rotate_left; (first | omega | (simp <;> omega))) | ((with_reducible refine Below.setCell ?_ ?_ _); rotate_left; (first | omega | (simp <;> omega))) | (with_reducible exact Below.refl _ _) | (with_reducible assumption)))) (by simp) (by simp) (by simp) (by simp) (by simp) (by simp) (by simp) (by simp) (by simp) (by simp) (by simp) (by simp) (by simp) (by simp) (by simp) (by simp) (by simp) (by simp) (by simp)).mono ?_
  rintro e w1 ⟨rfl, hb1⟩
  obtain ⟨hc1, hf1, hz1⟩ := bcell hb1
  try simp at hz1
  have zb1 : w.heap.size ≤ w1.heap.size := by omega
  try (have z1_0 : w.heap.size < w1.heap.size := by omega)
  try (have z1_1 : w.heap.size + 1 < w1.heap.size := by omega)
  try (have z1_2 : w.heap.size + 1 + 1 < w1.heap.size := by omega)
  try (have z1_3 : w.heap.size + 1 + 1 + 1 < w1.heap.size := by omega)
  have b1 : Below w.heap.size w w1 := Below.trans (by (repeat (first | (with_reducible refine Below.drewN ?_) | (with_reducible refine Below.drew ?_) | ((with_reducible refine Below.alloc ?_ ?_ _); rotate_left; (first | omega | (simp <;> omega))) | ((with_reducible refine Below.setCell ?_ ?_ _); rotate_left; (first | omega | (simp <;> omega))) | (with_reducible exact Below.refl _ _) | (with_reducible assumption)))) (hb1.mono (by first | omega | (simp <;> omega)))
  go_wp2
  go_ret2
  exact ⟨rfl, by (repeat (first | (with_reducible refine Below.drewN ?_) | (with_reducible refine Below.drew ?_) | ((with_reducible refine Below.alloc ?_ ?_ _); rotate_left; (first | omega | (simp <;> omega))) | ((with_reducible refine Below.setCell ?_ ?_ _); rotate_left; (first | omega | (simp <;> omega))) | (with_reducible exact Below.refl _ _) | (with_reducible assumption)))⟩



end Go.Proofs.Ytbkafmikaojclaa
