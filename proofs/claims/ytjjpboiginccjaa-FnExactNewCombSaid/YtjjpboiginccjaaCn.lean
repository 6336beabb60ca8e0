
/-
The law of the new combs.
-/
import Derived.Test.YtjjpboiginccjaaCm
namespace Go.Proofs.Ytjjpboiginccjaa
open Go Go.RowKit Fl
theorem l_NewComb (n : Int) (x : Nat) (n1 : Nat) (xs1 : List Nat) (i1 : Int) (x1 : Nat) (code : Int) (w : World) (m1 : n1 ≤ 1048576)
    (HS : ∀ w, Calls Try.prog 38 #[.int .i64 n, .float .f32 x] w (NewComb n1 xs1 i1 x1 code w)) (HI : ∀ w, Calls Try.prog 39 #[.int .i64 n, .float .f32 x] w (NewComb n1 xs1 i1 x1 code w)) :
    Calls Try.prog 11 #[.int .i64 n, .float .f32 x] w (RetV (.bool true) w) := by
  have HS := Lib.hid HS
  have HI := Lib.hid HI
  have hq : ¬ (1 + (n1 : Int)) < 0 := by omega
  go_enter Try.func11, Try.ntmps11
  go_wp2_with fail
  refine (HS.out _).mono ?_
  rintro e w1 ⟨a1s, c1s, g1s, t_x1s, rfl, hb1, q1s, o1s_1⟩
  obtain ⟨hc1, hf1, hz1⟩ := bcell hb1
  have Z1 : w.heap.size ≤ w1.heap.size := by first | exact hz1 | (simp at hz1; omega) | omega
  have b1 : Below w.heap.size w w1 := Below.trans (by (repeat (first | (with_reducible refine Below.drewN ?_) | (with_reducible refine Below.drew ?_) | ((with_reducible refine Below.alloc ?_ ?_ _); rotate_left; (first | omega | (simp <;> omega))) | ((with_reducible refine Below.setCell ?_ ?_ _); rotate_left; (first | omega | (simp <;> omega))) | (with_reducible exact Below.refl _ _) | (with_reducible assumption)))) (hb1.mono (by first | omega | (simp <;> omega)))
  have q1s : 0 < n1 → w.heap.size ≤ g1s ∧ g1s < w1.heap.size := fun h => by have := q1s h; first | omega | (simp at this; omega)
  go_wp2_with fail
  refine (HI.out _).mono ?_
  rintro e w2 ⟨a1i, c1i, g1i, t_x1i, rfl, hb2, q1i, o1i_2⟩
  obtain ⟨hc2, hf2, hz2⟩ := bcell hb2
  have Z2 : w1.heap.size < w2.heap.size := by first | exact hz2 | (simp at hz2; omega) | omega
  have Xw1_2 : w1.heap.size < w2.heap.size := by omega
  have b2 : Below w.heap.size w w2 := Below.trans (by (repeat (first | (with_reducible refine Below.drewN ?_) | (with_reducible refine Below.drew ?_) | ((with_reducible refine Below.alloc ?_ ?_ _); rotate_left; (first | omega | (simp <;> omega))) | ((with_reducible refine Below.setCell ?_ ?_ _); rotate_left; (first | omega | (simp <;> omega))) | (with_reducible exact Below.refl _ _) | (with_reducible assumption)))) (hb2.mono (by first | omega | (simp <;> omega)))
  have q1i : 0 < n1 → w1.heap.size < g1i ∧ g1i < w2.heap.size := fun h => by have := q1i h; first | omega | (simp at this; omega)
  have o1s_2 := OF.below (g := g1s) (a := a1s) (n := n1) (c := c1s) (xs := xs1) (by (repeat (first | (with_reducible assumption) | (with_reducible refine OF.draw ?_) | (with_reducible exact OF.made' (by simp) (by simp) (by omega)) | (with_reducible refine OF.alloc ?_ _) | ((with_reducible refine OF.setCell ?_ ?_ _); rotate_left; (first | omega | (simp <;> omega)))))) hb2 (Nat.le_refl _)
  clear o1s_1
  go_wp2_with fail
  refine (c_eqComb' _ _ _ _ _ _ _ _ _ _ _ (FS.below (B := w2.heap.size) o1i_2.fs (by (repeat (first | (with_reducible refine Below.drewN ?_) | (with_reducible refine Below.drew ?_) | ((with_reducible refine Below.alloc ?_ ?_ _); rotate_left; (first | omega | (simp <;> omega))) | ((with_reducible refine Below.setCell ?_ ?_ _); rotate_left; (first | omega | (simp <;> omega))) | (with_reducible exact Below.refl _ _) | (with_reducible assumption)))) (Nat.le_refl _)) (FS.below (B := w2.heap.size) o1s_2.fs (by (repeat (first | (with_reducible refine Below.drewN ?_) | (with_reducible refine Below.drew ?_) | ((with_reducible refine Below.alloc ?_ ?_ _); rotate_left; (first | omega | (simp <;> omega))) | ((with_reducible refine Below.setCell ?_ ?_ _); rotate_left; (first | omega | (simp <;> omega))) | (with_reducible exact Below.refl _ _) | (with_reducible assumption)))) (Nat.le_refl _)) (Alk.refl _) (up_nv2 _ _ _)).mono ?_
  rintro e w3 ⟨rfl, hb3⟩
  obtain ⟨hc3, hf3, hz3⟩ := bcell hb3
  have Z3 : w2.heap.size < w3.heap.size := by first | exact hz3 | (simp at hz3; omega) | omega
  have Xw1_3 : w1.heap.size < w3.heap.size := by omega
  have Xw2_3 : w2.heap.size < w3.heap.size := by omega
  have b3 : Below w.heap.size w w3 := Below.trans (by (repeat (first | (with_reducible refine Below.drewN ?_) | (with_reducible refine Below.drew ?_) | ((with_reducible refine Below.alloc ?_ ?_ _); rotate_left; (first | omega | (simp <;> omega))) | ((with_reducible refine Below.setCell ?_ ?_ _); rotate_left; (first | omega | (simp <;> omega))) | (with_reducible exact Below.refl _ _) | (with_reducible assumption)))) (hb3.mono (by first | omega | (simp <;> omega)))
  have o1s_3 := OF.below (g := g1s) (a := a1s) (n := n1) (c := c1s) (xs := xs1) (by (repeat (first | (with_reducible assumption) | (with_reducible refine OF.draw ?_) | (with_reducible exact OF.made' (by simp) (by simp) (by omega)) | (with_reducible refine OF.alloc ?_ _) | ((with_reducible refine OF.setCell ?_ ?_ _); rotate_left; (first | omega | (simp <;> omega)))))) hb3 (Nat.le_refl _)
  clear o1s_2
  have o1i_3 := OF.below (g := g1i) (a := a1i) (n := n1) (c := c1i) (xs := xs1) (by (repeat (first | (with_reducible assumption) | (with_reducible refine OF.draw ?_) | (with_reducible exact OF.made' (by simp) (by simp) (by omega)) | (with_reducible refine OF.alloc ?_ _) | ((with_reducible refine OF.setCell ?_ ?_ _); rotate_left; (first | omega | (simp <;> omega)))))) hb3 (Nat.le_refl _)
  clear o1i_2
  go_wp2_with fail
  refine (c_markComb' g1i _ _ _ xs1 _ _ 1 _ (by (repeat (first | (with_reducible assumption) | (with_reducible refine OF.draw ?_) | (with_reducible exact OF.made' (by simp) (by simp) (by omega)) | (with_reducible refine OF.alloc ?_ _) | ((with_reducible refine OF.setCell ?_ ?_ _); rotate_left; (first | omega | (simp <;> omega)))))) (by first | omega | (simp; omega))  (by omega) (by omega)).mono ?_
  rintro e w4 ⟨rfl, wr4, o1i_4⟩
  have hz4 := wr4.size
  obtain ⟨hc4w1, hf4w1, _⟩ := wr4.cell w1.heap.size (by first | omega | (simp; omega)) (by simp only [mem_gl]; omega)
  obtain ⟨hc4w2, hf4w2, _⟩ := wr4.cell w2.heap.size (by first | omega | (simp; omega)) (by simp only [mem_gl]; omega)
  have Z4 : w3.heap.size ≤ w4.heap.size := by first | exact hz4 | (simp at hz4; omega) | omega
  have Xw1_4 : w1.heap.size < w4.heap.size := by omega
  have Xw2_4 : w2.heap.size < w4.heap.size := by omega
  have b4 : Below w.heap.size w w4 := Below.trans (by (repeat (first | (with_reducible refine Below.drewN ?_) | (with_reducible refine Below.drew ?_) | ((with_reducible refine Below.alloc ?_ ?_ _); rotate_left; (first | omega | (simp <;> omega))) | ((with_reducible refine Below.setCell ?_ ?_ _); rotate_left; (first | omega | (simp <;> omega))) | (with_reducible exact Below.refl _ _) | (with_reducible assumption)))) (wr4.below (by first | omega | (simp; omega)) (by intro g hg; simp only [mem_gl] at hg; omega))
  clear o1i_3
  have o1s_4 := OF.wr (g := g1s) (a := a1s) (n := n1) (c := c1s) (xs := xs1) (by (repeat (first | (with_reducible assumption) | (with_reducible refine OF.draw ?_) | (with_reducible exact OF.made' (by simp) (by simp) (by omega)) | (with_reducible refine OF.alloc ?_ _) | ((with_reducible refine OF.setCell ?_ ?_ _); rotate_left; (first | omega | (simp <;> omega)))))) wr4 (by simp only [mem_gl]; omega)
  clear o1s_3
  go_wp2_with fail
  refine (c_heldComb' _ _ _ _ _ 1 _ (FS.below (B := w4.heap.size) o1i_4.fs (by (repeat (first | (with_reducible refine Below.drewN ?_) | (with_reducible refine Below.drew ?_) | ((with_reducible refine Below.alloc ?_ ?_ _); rotate_left; (first | omega | (simp <;> omega))) | ((with_reducible refine Below.setCell ?_ ?_ _); rotate_left; (first | omega | (simp <;> omega))) | (with_reducible exact Below.refl _ _) | (with_reducible assumption)))) (Nat.le_refl _)) (by omega) (by omega)).mono ?_
  rintro e w5 ⟨rfl, hb5⟩
  obtain ⟨hc5, hf5, hz5⟩ := bcell hb5
  have Z5 : w4.heap.size ≤ w5.heap.size := by first | exact hz5 | (simp at hz5; omega) | omega
  have Xw1_5 : w1.heap.size < w5.heap.size := by omega
  have Xw2_5 : w2.heap.size < w5.heap.size := by omega
  have b5 : Below w.heap.size w w5 := Below.trans (by (repeat (first | (with_reducible refine Below.drewN ?_) | (with_reducible refine Below.drew ?_) | ((with_reducible refine Below.alloc ?_ ?_ _); rotate_left; (first | omega | (simp <;> omega))) | ((with_reducible refine Below.setCell ?_ ?_ _); rotate_left; (first | omega | (simp <;> omega))) | (with_reducible exact Below.refl _ _) | (with_reducible assumption)))) (hb5.mono (by first | omega | (simp <;> omega)))
  have o1s_5 := OF.below (g := g1s) (a := a1s) (n := n1) (c := c1s) (xs := xs1) (by (repeat (first | (with_reducible assumption) | (with_reducible refine OF.draw ?_) | (with_reducible exact OF.made' (by simp) (by simp) (by omega)) | (with_reducible refine OF.alloc ?_ _) | ((with_reducible refine OF.setCell ?_ ?_ _); rotate_left; (first | omega | (simp <;> omega)))))) hb5 (Nat.le_refl _)
  clear o1s_4
  have o1i_5 := OF.below (g := g1i) (a := a1i) (n := n1) (c := c1i) (xs := marks (1) n1) (by (repeat (first | (with_reducible assumption) | (with_reducible refine OF.draw ?_) | (with_reducible exact OF.made' (by simp) (by simp) (by omega)) | (with_reducible refine OF.alloc ?_ _) | ((with_reducible refine OF.setCell ?_ ?_ _); rotate_left; (first | omega | (simp <;> omega)))))) hb5 (Nat.le_refl _)
  clear o1i_4
  go_wp2_with fail
  refine (HI.out _).mono ?_
  rintro e w6 ⟨a1h, c1h, g1h, t_x1h, rfl, hb6, q1h, o1h_6⟩
  obtain ⟨hc6, hf6, hz6⟩ := bcell hb6
  have Z6 : w5.heap.size ≤ w6.heap.size := by first | exact hz6 | (simp at hz6; omega) | omega
  have Xw1_6 : w1.heap.size < w6.heap.size := by omega
  have Xw2_6 : w2.heap.size < w6.heap.size := by omega
  have b6 : Below w.heap.size w w6 := Below.trans (by (repeat (first | (with_reducible refine Below.drewN ?_) | (with_reducible refine Below.drew ?_) | ((with_reducible refine Below.alloc ?_ ?_ _); rotate_left; (first | omega | (simp <;> omega))) | ((with_reducible refine Below.setCell ?_ ?_ _); rotate_left; (first | omega | (simp <;> omega))) | (with_reducible exact Below.refl _ _) | (with_reducible assumption)))) (hb6.mono (by first | omega | (simp <;> omega)))
  have q1h : 0 < n1 → w5.heap.size ≤ g1h ∧ g1h < w6.heap.size := fun h => by have := q1h h; first | omega | (simp at this; omega)
  have o1s_6 := OF.below (g := g1s) (a := a1s) (n := n1) (c := c1s) (xs := xs1) (by (repeat (first | (with_reducible assumption) | (with_reducible refine OF.draw ?_) | (with_reducible exact OF.made' (by simp) (by simp) (by omega)) | (with_reducible refine OF.alloc ?_ _) | ((with_reducible refine OF.setCell ?_ ?_ _); rotate_left; (first | omega | (simp <;> omega)))))) hb6 (Nat.le_refl _)
  clear o1s_5
  have o1i_6 := OF.below (g := g1i) (a := a1i) (n := n1) (c := c1i) (xs := marks (1) n1) (by (repeat (first | (with_reducible assumption) | (with_reducible refine OF.draw ?_) | (with_reducible exact OF.made' (by simp) (by simp) (by omega)) | (with_reducible refine OF.alloc ?_ _) | ((with_reducible refine OF.setCell ?_ ?_ _); rotate_left; (first | omega | (simp <;> omega)))))) hb6 (Nat.le_refl _)
  clear o1i_5
  go_wp2_with fail
  refine (c_eqComb' _ _ _ _ _ _ _ _ _ _ _ (FS.below (B := w6.heap.size) o1h_6.fs (by (repeat (first | (with_reducible refine Below.drewN ?_) | (with_reducible refine Below.drew ?_) | ((with_reducible refine Below.alloc ?_ ?_ _); rotate_left; (first | omega | (simp <;> omega))) | ((with_reducible refine Below.setCell ?_ ?_ _); rotate_left; (first | omega | (simp <;> omega))) | (with_reducible exact Below.refl _ _) | (with_reducible assumption)))) (Nat.le_refl _)) (FS.below (B := w6.heap.size) o1s_6.fs (by (repeat (first | (with_reducible refine Below.drewN ?_) | (with_reducible refine Below.drew ?_) | ((with_reducible refine Below.alloc ?_ ?_ _); rotate_left; (first | omega | (simp <;> omega))) | ((with_reducible refine Below.setCell ?_ ?_ _); rotate_left; (first | omega | (simp <;> omega))) | (with_reducible exact Below.refl _ _) | (with_reducible assumption)))) (Nat.le_refl _)) (Alk.refl _) (up_nv2 _ _ _)).mono ?_
  rintro e w7 ⟨rfl, hb7⟩
  obtain ⟨hc7, hf7, hz7⟩ := bcell hb7
  have Z7 : w6.heap.size < w7.heap.size := by first | exact hz7 | (simp at hz7; omega) | omega
  have Xw1_7 : w1.heap.size < w7.heap.size := by omega
  have Xw2_7 : w2.heap.size < w7.heap.size := by omega
  have Xw6_7 : w6.heap.size < w7.heap.size := by omega
  have b7 : Below w.heap.size w w7 := Below.trans (by (repeat (first | (with_reducible refine Below.drewN ?_) | (with_reducible refine Below.drew ?_) | ((with_reducible refine Below.alloc ?_ ?_ _); rotate_left; (first | omega | (simp <;> omega))) | ((with_reducible refine Below.setCell ?_ ?_ _); rotate_left; (first | omega | (simp <;> omega))) | (with_reducible exact Below.refl _ _) | (with_reducible assumption)))) (hb7.mono (by first | omega | (simp <;> omega)))
  have o1s_7 := OF.below (g := g1s) (a := a1s) (n := n1) (c := c1s) (xs := xs1) (by (repeat (first | (with_reducible assumption) | (with_reducible refine OF.draw ?_) | (with_reducible exact OF.made' (by simp) (by simp) (by omega)) | (with_reducible refine OF.alloc ?_ _) | ((with_reducible refine OF.setCell ?_ ?_ _); rotate_left; (first | omega | (simp <;> omega)))))) hb7 (Nat.le_refl _)
  clear o1s_6
  have o1i_7 := OF.below (g := g1i) (a := a1i) (n := n1) (c := c1i) (xs := marks (1) n1) (by (repeat (first | (with_reducible assumption) | (with_reducible refine OF.draw ?_) | (with_reducible exact OF.made' (by simp) (by simp) (by omega)) | (with_reducible refine OF.alloc ?_ _) | ((with_reducible refine OF.setCell ?_ ?_ _); rotate_left; (first | omega | (simp <;> omega)))))) hb7 (Nat.le_refl _)
  clear o1i_6
  have o1h_7 := OF.below (g := g1h) (a := a1h) (n := n1) (c := c1h) (xs := xs1) (by (repeat (first | (with_reducible assumption) | (with_reducible refine OF.draw ?_) | (with_reducible exact OF.made' (by simp) (by simp) (by omega)) | (with_reducible refine OF.alloc ?_ _) | ((with_reducible refine OF.setCell ?_ ?_ _); rotate_left; (first | omega | (simp <;> omega)))))) hb7 (Nat.le_refl _)
  clear o1h_6
  go_wp2_with fail
  refine (c_heldComb' _ _ _ _ _ 1 _ (FS.below (B := w7.heap.size) o1i_7.fs (by (repeat (first | (with_reducible refine Below.drewN ?_) | (with_reducible refine Below.drew ?_) | ((with_reducible refine Below.alloc ?_ ?_ _); rotate_left; (first | omega | (simp <;> omega))) | ((with_reducible refine Below.setCell ?_ ?_ _); rotate_left; (first | omega | (simp <;> omega))) | (with_reducible exact Below.refl _ _) | (with_reducible assumption)))) (Nat.le_refl _)) (by omega) (by omega)).mono ?_
  rintro e w8 ⟨rfl, hb8⟩
  obtain ⟨hc8, hf8, hz8⟩ := bcell hb8
  have Z8 : w7.heap.size ≤ w8.heap.size := by first | exact hz8 | (simp at hz8; omega) | omega
  have Xw1_8 : w1.heap.size < w8.heap.size := by omega
  have Xw2_8 : w2.heap.size < w8.heap.size := by omega
  have Xw6_8 : w6.heap.size < w8.heap.size := by omega
  have b8 : Below w.heap.size w w8 := Below.trans (by (repeat (first | (with_reducible refine Below.drewN ?_) | (with_reducible refine Below.drew ?_) | ((with_reducible refine Below.alloc ?_ ?_ _); rotate_left; (first | omega | (simp <;> omega))) | ((with_reducible refine Below.setCell ?_ ?_ _); rotate_left; (first | omega | (simp <;> omega))) | (with_reducible exact Below.refl _ _) | (with_reducible assumption)))) (hb8.mono (by first | omega | (simp <;> omega)))
  have o1s_8 := OF.below (g := g1s) (a := a1s) (n := n1) (c := c1s) (xs := xs1) (by (repeat (first | (with_reducible assumption) | (with_reducible refine OF.draw ?_) | (with_reducible exact OF.made' (by simp) (by simp) (by omega)) | (with_reducible refine OF.alloc ?_ _) | ((with_reducible refine OF.setCell ?_ ?_ _); rotate_left; (first | omega | (simp <;> omega)))))) hb8 (Nat.le_refl _)
  clear o1s_7
  have o1i_8 := OF.below (g := g1i) (a := a1i) (n := n1) (c := c1i) (xs := marks (1) n1) (by (repeat (first | (with_reducible assumption) | (with_reducible refine OF.draw ?_) | (with_reducible exact OF.made' (by simp) (by simp) (by omega)) | (with_reducible refine OF.alloc ?_ _) | ((with_reducible refine OF.setCell ?_ ?_ _); rotate_left; (first | omega | (simp <;> omega)))))) hb8 (Nat.le_refl _)
  clear o1i_7
  have o1h_8 := OF.below (g := g1h) (a := a1h) (n := n1) (c := c1h) (xs := xs1) (by (repeat (first | (with_reducible assumption) | (with_reducible refine OF.draw ?_) | (with_reducible exact OF.made' (by simp) (by simp) (by omega)) | (with_reducible refine OF.alloc ?_ _) | ((with_reducible refine OF.setCell ?_ ?_ _); rotate_left; (first | omega | (simp <;> omega)))))) hb8 (Nat.le_refl _)
  clear o1h_7
  go_wp2
  go_ret
  exact ⟨rfl, by (repeat (first | (with_reducible refine Below.drewN ?_) | (with_reducible refine Below.drew ?_) | ((with_reducible refine Below.alloc ?_ ?_ _); rotate_left; (first | omega | (simp <;> omega))) | ((with_reducible refine Below.setCell ?_ ?_ _); rotate_left; (first | omega | (simp <;> omega))) | (with_reducible exact Below.refl _ _) | (with_reducible assumption)))⟩


theorem k_NewComb (n : Int) (x : Nat) (w : World) : Calls Try.prog 11 #[.int .i64 n, .float .f32 x] w (RetV (.bool true) w) := by
  cases h : inB n 1 1024 && openB x
  · exact l_NewComb n x 0 [] 0 0 2 w (by omega) (fun w => c_sNewComb_no n x w h) (fun w => c_NewComb_no n x w h)
  · rw [Bool.and_eq_true] at h
    have hn := inB_yes h.1
    obtain ⟨m, rfl⟩ := Int.eq_ofNat_of_zero_le (show 0 ≤ n by omega)
    exact l_NewComb _ x m _ _ _ _ w (by omega) (fun w => c_sNewComb_ok m x w (by omega) (by omega) h.2) (fun w => c_NewComb_ok m x w (by omega) (by omega) h.2)
end Go.Proofs.Ytjjpboiginccjaa
