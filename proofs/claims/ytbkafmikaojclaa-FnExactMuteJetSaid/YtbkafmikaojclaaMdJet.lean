
/-
Muting jets: not valid.
-/
import Derived.Test.YtbkafmikaojclaaCyJet
namespace Go.Proofs.Ytbkafmikaojclaa
open Go Go.RowKit Fl
set_option maxRecDepth 100000 in
set_option maxHeartbeats 2000000 in
theorem c_sMuteJet_no (a1 : Option Addr) (n1 c1 : Nat) (xs1 : List Nat) (i1 : Int) (a2 : Option Addr) (n2 c2 : Nat) (xs2 : List Nat) (i2 : Int) (k1 : Int) (f1_0 f1_1 f1_2 f1_3 f1_4 : Nat) (k2 : Int) (f2_0 f2_1 f2_2 f2_3 f2_4 : Nat) (x1 : Nat) (x2 : Nat) (w : World) (h_1 : FS w a1 n1 c1 xs1) (h_2 : FS w a2 n2 c2 xs2) (hv : valJet n1 xs1 i1 n2 xs2 i2 k1 f1_0 f1_1 f1_2 f1_3 f1_4 k2 f2_0 f2_1 f2_2 f2_3 f2_4 x1 x2 = false) :
    Calls Try.prog 56 #[.agg #[.slice a1 n1 c1, .int .i64 i1, .slice a2 n2 c2, .int .i64 i2, .int .i64 k1, .float .f32 f1_0, .float .f32 f1_1, .float .f32 f1_2, .float .f32 f1_3, .float .f32 f1_4, .int .i64 k2, .float .f32 f2_0, .float .f32 f2_1, .float .f32 f2_2, .float .f32 f2_3, .float .f32 f2_4, .float .f32 x1, .float .f32 x2]] w (NewJet 0 [] 0 0 [] 0 0 0 0 0 0 0 0 0 0 0 0 0 0 0 1 w) := by
  have K1 : Hid (∀ W b, Below w.heap.size w W → b < W.heap.size → W.cell? ⟨b, 0, none⟩ = some (.slice a1 n1 c1) → W.cell? ⟨b, 0 + 1, none⟩ = some (.int .i64 i1) → W.cell? ⟨b, 0 + 2, none⟩ = some (.slice a2 n2 c2) → W.cell? ⟨b, 0 + 3, none⟩ = some (.int .i64 i2) → W.cell? ⟨b, 0 + 4, none⟩ = some (.int .i64 k1) → W.cell? ⟨b, 0 + 5, none⟩ = some (.float .f32 f1_0) → W.cell? ⟨b, 0 + 6, none⟩ = some (.float .f32 f1_1) → W.cell? ⟨b, 0 + 7, none⟩ = some (.float .f32 f1_2) → W.cell? ⟨b, 0 + 8, none⟩ = some (.float .f32 f1_3) → W.cell? ⟨b, 0 + 9, none⟩ = some (.float .f32 f1_4) → W.cell? ⟨b, 0 + 10, none⟩ = some (.int .i64 k2) → W.cell? ⟨b, 0 + 11, none⟩ = some (.float .f32 f2_0) → W.cell? ⟨b, 0 + 12, none⟩ = some (.float .f32 f2_1) → W.cell? ⟨b, 0 + 13, none⟩ = some (.float .f32 f2_2) → W.cell? ⟨b, 0 + 14, none⟩ = some (.float .f32 f2_3) → W.cell? ⟨b, 0 + 15, none⟩ = some (.float .f32 f2_4) → W.cell? ⟨b, 0 + 16, none⟩ = some (.float .f32 x1) → W.cell? ⟨b, 0 + 17, none⟩ = some (.float .f32 x2) → Calls Try.prog 93 #[.pointer (some ⟨b, 0, none⟩)] W (RetV (.bool false) W)) := fun W b hW hb e0 e1 e2 e3 e4 e5 e6 e7 e8 e9 e10 e11 e12 e13 e14 e15 e16 e17 => hv ▸ c_l05Jet b 0 _ _ _ _ _ _ _ _ _ _ _ _ _ _ _ _ _ _ _ _ _ _ _ _ W (h_1.below hW (Nat.le_refl _)) (h_2.below hW (Nat.le_refl _)) hb e0 e1 e2 e3 e4 e5 e6 e7 e8 e9 e10 e11 e12 e13 e14 e15 e16 e17
  clear hv h_1 h_2
  go_enter Try.func56, Try.ntmps56
  go_wp2_with fail
  refine (K1.out _ _ (by (repeat (first | (with_reducible refine Below.drewN ?_) | (with_reducible refine Below.drew ?_) | ((with_reducible refine Below.alloc ?_ ?_ _); rotate_left; (first | omega | (simp <;> omega))) | ((with_reducible refine Below.setCell ?_ ?_ _); rotate_left; (first | omega | (simp <;> omega))) | ((with_reducible refine Below.setCells ?_ ?_ _); rotate_left; (first | omega | (simp <;> omega))) | (with_reducible exact Below.refl _ _) | (with_reducible assumption)))) (by first | (simp; done) | (simp; omega)) (by simp) (by simp) (by simp) (by simp) (by simp) (by simp) (by simp) (by simp) (by simp) (by simp) (by simp) (by simp) (by simp) (by simp) (by simp) (by simp) (by simp) (by simp)).mono ?_
  rintro e w1 ⟨rfl, hb1⟩
  obtain ⟨hc1, hf1, hz1⟩ := bcell hb1
  have hk1 := bblk hb1
  try simp at hz1
  try (have z1_0 : w.heap.size < w1.heap.size := by omega)
  try (have zz1_0 : w.heap.size < w1.heap.size + 1 := by omega)
  try (have z1_1 : w.heap.size + 1 < w1.heap.size := by omega)
  try (have zz1_1 : w.heap.size + 1 < w1.heap.size + 1 := by omega)
  have zl1 : w.heap.size ≤ w1.heap.size := by omega
  have b1 : Below w.heap.size w w1 := Below.trans (by (repeat (first | (with_reducible refine Below.drewN ?_) | (with_reducible refine Below.drew ?_) | ((with_reducible refine Below.alloc ?_ ?_ _); rotate_left; (first | omega | (simp <;> omega))) | ((with_reducible refine Below.setCell ?_ ?_ _); rotate_left; (first | omega | (simp <;> omega))) | ((with_reducible refine Below.setCells ?_ ?_ _); rotate_left; (first | omega | (simp <;> omega))) | (with_reducible exact Below.refl _ _) | (with_reducible assumption)))) (hb1.mono (by first | omega | (simp <;> omega) | (simp [size_setCells] <;> omega)))
  go_wp2
  refine bodyPost_ret (v := .tuple #[.agg #[.slice none 0 0, .int .i64 0, .slice none 0 0, .int .i64 0, .int .i64 0, .float .f32 0, .float .f32 0, .float .f32 0, .float .f32 0, .float .f32 0, .int .i64 0, .float .f32 0, .float .f32 0, .float .f32 0, .float .f32 0, .float .f32 0, .float .f32 0, .float .f32 0], .int .i64 1]) (by simp [results, Try.results56, go_sem, *] <;> rfl) rfl ?_
  exact ⟨none, none, 0, 0, 0, 1, 0, 0, 0, 0, 0, 0, 0, 0, 0, 0, 0, 0, rfl, by (repeat (first | (with_reducible refine Below.drewN ?_) | (with_reducible refine Below.drew ?_) | ((with_reducible refine Below.alloc ?_ ?_ _); rotate_left; (first | omega | (simp <;> omega))) | ((with_reducible refine Below.setCell ?_ ?_ _); rotate_left; (first | omega | (simp <;> omega))) | ((with_reducible refine Below.setCells ?_ ?_ _); rotate_left; (first | omega | (simp <;> omega))) | (with_reducible exact Below.refl _ _) | (with_reducible assumption))), fun h => absurd h (by omega), fun h => absurd h (by omega), by decide, OF.nil _ _, OF.nil _ _⟩

set_option maxRecDepth 100000 in
set_option maxHeartbeats 2000000 in
theorem c_MuteJet_no (a1 : Option Addr) (n1 c1 : Nat) (xs1 : List Nat) (i1 : Int) (a2 : Option Addr) (n2 c2 : Nat) (xs2 : List Nat) (i2 : Int) (k1 : Int) (f1_0 f1_1 f1_2 f1_3 f1_4 : Nat) (k2 : Int) (f2_0 f2_1 f2_2 f2_3 f2_4 : Nat) (x1 : Nat) (x2 : Nat) (w : World) (h_1 : FS w a1 n1 c1 xs1) (h_2 : FS w a2 n2 c2 xs2) (hv : valJet n1 xs1 i1 n2 xs2 i2 k1 f1_0 f1_1 f1_2 f1_3 f1_4 k2 f2_0 f2_1 f2_2 f2_3 f2_4 x1 x2 = false) :
    Calls Try.prog 57 #[.agg #[.slice a1 n1 c1, .int .i64 i1, .slice a2 n2 c2, .int .i64 i2, .int .i64 k1, .float .f32 f1_0, .float .f32 f1_1, .float .f32 f1_2, .float .f32 f1_3, .float .f32 f1_4, .int .i64 k2, .float .f32 f2_0, .float .f32 f2_1, .float .f32 f2_2, .float .f32 f2_3, .float .f32 f2_4, .float .f32 x1, .float .f32 x2]] w (NewJet 0 [] 0 0 [] 0 0 0 0 0 0 0 0 0 0 0 0 0 0 0 1 w) := by
  have K1 : Hid (∀ W, Below w.heap.size w W → Calls Try.prog 41 #[.agg #[.slice a1 n1 c1, .int .i64 i1, .slice a2 n2 c2, .int .i64 i2, .int .i64 k1, .float .f32 f1_0, .float .f32 f1_1, .float .f32 f1_2, .float .f32 f1_3, .float .f32 f1_4, .int .i64 k2, .float .f32 f2_0, .float .f32 f2_1, .float .f32 f2_2, .float .f32 f2_3, .float .f32 f2_4, .float .f32 x1, .float .f32 x2]] W (RetV (.bool false) W)) := fun W hb => hv ▸ c_ValidJet _ _ _ _ _ _ _ _ _ _ _ _ _ _ _ _ _ _ _ _ _ _ _ _ W (h_1.below hb (Nat.le_refl _)) (h_2.below hb (Nat.le_refl _))
  clear hv h_1 h_2
  go_enter Try.func57, Try.ntmps57
  go_wp2_with fail
  refine (K1.out _ (by (repeat (first | (with_reducible refine Below.drewN ?_) | (with_reducible refine Below.drew ?_) | ((with_reducible refine Below.alloc ?_ ?_ _); rotate_left; (first | omega | (simp <;> omega))) | ((with_reducible refine Below.setCell ?_ ?_ _); rotate_left; (first | omega | (simp <;> omega))) | ((with_reducible refine Below.setCells ?_ ?_ _); rotate_left; (first | omega | (simp <;> omega))) | (with_reducible exact Below.refl _ _) | (with_reducible assumption))))).mono ?_
  rintro e w1 ⟨rfl, hb1⟩
  obtain ⟨hc1, hf1, hz1⟩ := bcell hb1
  have hk1 := bblk hb1
  try simp at hz1
  try (have z1_0 : w.heap.size < w1.heap.size := by omega)
  try (have zz1_0 : w.heap.size < w1.heap.size + 1 := by omega)
  try (have z1_1 : w.heap.size + 1 < w1.heap.size := by omega)
  try (have zz1_1 : w.heap.size + 1 < w1.heap.size + 1 := by omega)
  have zl1 : w.heap.size ≤ w1.heap.size := by omega
  have b1 : Below w.heap.size w w1 := Below.trans (by (repeat (first | (with_reducible refine Below.drewN ?_) | (with_reducible refine Below.drew ?_) | ((with_reducible refine Below.alloc ?_ ?_ _); rotate_left; (first | omega | (simp <;> omega))) | ((with_reducible refine Below.setCell ?_ ?_ _); rotate_left; (first | omega | (simp <;> omega))) | ((with_reducible refine Below.setCells ?_ ?_ _); rotate_left; (first | omega | (simp <;> omega))) | (with_reducible exact Below.refl _ _) | (with_reducible assumption)))) (hb1.mono (by first | omega | (simp <;> omega) | (simp [size_setCells] <;> omega)))
  go_wp2
  refine bodyPost_ret (v := .tuple #[.agg #[.slice none 0 0, .int .i64 0, .slice none 0 0, .int .i64 0, .int .i64 0, .float .f32 0, .float .f32 0, .float .f32 0, .float .f32 0, .float .f32 0, .int .i64 0, .float .f32 0, .float .f32 0, .float .f32 0, .float .f32 0, .float .f32 0, .float .f32 0, .float .f32 0], .int .i64 1]) (by simp [results, Try.results57, go_sem, *] <;> rfl) rfl ?_
  exact ⟨none, none, 0, 0, 0, 1, 0, 0, 0, 0, 0, 0, 0, 0, 0, 0, 0, 0, rfl, by (repeat (first | (with_reducible refine Below.drewN ?_) | (with_reducible refine Below.drew ?_) | ((with_reducible refine Below.alloc ?_ ?_ _); rotate_left; (first | omega | (simp <;> omega))) | ((with_reducible refine Below.setCell ?_ ?_ _); rotate_left; (first | omega | (simp <;> omega))) | ((with_reducible refine Below.setCells ?_ ?_ _); rotate_left; (first | omega | (simp <;> omega))) | (with_reducible exact Below.refl _ _) | (with_reducible assumption))), fun h => absurd h (by omega), fun h => absurd h (by omega), by decide, OF.nil _ _, OF.nil _ _⟩


end Go.Proofs.Ytbkafmikaojclaa
