
/-
The law of the cents of keys.
-/
import Derived.Test.YtdhiihmfgmempaaKc
namespace Go.Proofs.Ytdhiihmfgmempaa
open Go Go.RowKit Fl
set_option maxRecDepth 100000 in
set_option maxHeartbeats 1000000 in
theorem l_KeyCents (x1 : Nat) (x2 : Nat) (a1 : Option Addr) (n1 c1 : Nat) (xs1 : List Nat) (key : Int) (v : Nat) (code : Int) (w : World) (h_1 : FS w a1 n1 c1 xs1)
    (HS : ∀ W (d1 : Option Addr) (e1 : Nat), FS W d1 n1 e1 xs1 → Calls Try.prog 37 #[.agg #[.float .f32 x1, .float .f32 x2, .slice d1 n1 e1], .int .i64 key] W (RetFC v code W))
    (HI : ∀ W (d1 : Option Addr) (e1 : Nat), FS W d1 n1 e1 xs1 → Calls Try.prog 38 #[.agg #[.float .f32 x1, .float .f32 x2, .slice d1 n1 e1], .int .i64 key] W (RetFC v code W)) :
    Calls Try.prog 8 #[.agg #[.float .f32 x1, .float .f32 x2, .slice a1 n1 c1], .int .i64 key] w (RetV (.bool true) w) := by
  have HS := Lib.hid HS
  have HI := Lib.hid HI
  have M1 : n1 ≤ 9223372036854775807 := Nat.le_trans h_1.cap h_1.big
  have H1 := Lib.hid h_1
  clear h_1
  by_cases ht : (n1 : Int) ≤ 1048576
  · have hl : ¬ (1048576 - n1 : Int) < 0 := by omega
    go_enter Try.func8, Try.ntmps8
    go_wp2_with fail
    refine (c_szTuning_ok _ _ _ _ _ (1048576) _ (by omega) (by omega) M1 (by omega)).mono ?_
    rintro e w1 ⟨rfl, hb1⟩
    obtain ⟨hc1, hf1, hz1⟩ := bcell hb1
    have hk1 := bblk hb1
    have Z1 : w.heap.size ≤ w1.heap.size := by first | exact hz1 | (simp at hz1; omega) | omega
    try (have ZS1 : w.heap.size < w1.heap.size := by first | omega | (simp at hz1; omega))
    try (have Xw_1 : w.heap.size < w1.heap.size := by first | omega | (simp at hz1; omega))
    try (have XXw_1 : w.heap.size < w1.heap.size + 1 := by omega)
    have b1 : Below w.heap.size w w1 := Below.trans (by (repeat (first | (with_reducible refine Below.drewN ?_) | (with_reducible refine Below.drew ?_) | ((with_reducible refine Below.alloc ?_ ?_ _); rotate_left; (first | omega | (simp <;> omega))) | ((with_reducible refine Below.setCell ?_ ?_ _); rotate_left; (first | omega | (simp <;> omega))) | (with_reducible exact Below.refl _ _) | (with_reducible assumption)))) (hb1.mono (by first | omega | (simp <;> omega)))
    go_wp2_with fail
    refine (c_toTuning' x1 x2 a1 n1 c1 xs1 _ (FS.below (B := w.heap.size) H1.out (by (repeat (first | (with_reducible refine Below.drewN ?_) | (with_reducible refine Below.drew ?_) | ((with_reducible refine Below.alloc ?_ ?_ _); rotate_left; (first | omega | (simp <;> omega))) | ((with_reducible refine Below.setCell ?_ ?_ _); rotate_left; (first | omega | (simp <;> omega))) | (with_reducible exact Below.refl _ _) | (with_reducible assumption)))) (Nat.le_refl _)) (by omega)).mono ?_
    rintro e w2 ⟨g1s, rfl, hb2, l0s, l1s, o1s_2⟩
    obtain ⟨hc2, hf2, hz2⟩ := bcell hb2
    have hk2 := bblk hb2
    have Z2 : w1.heap.size ≤ w2.heap.size := by first | exact hz2 | (simp at hz2; omega) | omega
    try (have ZS2 : w1.heap.size < w2.heap.size := by first | omega | (simp at hz2; omega))
    try (have Xw_2 : w.heap.size < w2.heap.size := by first | omega | (simp at hz2; omega))
    try (have XXw_2 : w.heap.size < w2.heap.size + 1 := by omega)
    have b2 : Below w.heap.size w w2 := Below.trans (by (repeat (first | (with_reducible refine Below.drewN ?_) | (with_reducible refine Below.drew ?_) | ((with_reducible refine Below.alloc ?_ ?_ _); rotate_left; (first | omega | (simp <;> omega))) | ((with_reducible refine Below.setCell ?_ ?_ _); rotate_left; (first | omega | (simp <;> omega))) | (with_reducible exact Below.refl _ _) | (with_reducible assumption)))) (hb2.mono (by first | omega | (simp <;> omega)))
    try simp at l0s
    have q1s : w1.heap.size ≤ g1s ∧ g1s < w2.heap.size := by omega
    go_wp2_with fail
    refine (HS.out _ _ _ (FS.below (B := w2.heap.size) o1s_2.fs (by (repeat (first | (with_reducible refine Below.drewN ?_) | (with_reducible refine Below.drew ?_) | ((with_reducible refine Below.alloc ?_ ?_ _); rotate_left; (first | omega | (simp <;> omega))) | ((with_reducible refine Below.setCell ?_ ?_ _); rotate_left; (first | omega | (simp <;> omega))) | (with_reducible exact Below.refl _ _) | (with_reducible assumption)))) (Nat.le_refl _))).mono ?_
    rintro e w3 ⟨tHS, rfl, hb3⟩
    obtain ⟨hc3, hf3, hz3⟩ := bcell hb3
    have hk3 := bblk hb3
    have Z3 : w2.heap.size ≤ w3.heap.size := by first | exact hz3 | (simp at hz3; omega) | omega
    try (have ZS3 : w2.heap.size < w3.heap.size := by first | omega | (simp at hz3; omega))
    try (have Xw_3 : w.heap.size < w3.heap.size := by first | omega | (simp at hz3; omega))
    try (have XXw_3 : w.heap.size < w3.heap.size + 1 := by omega)
    try (have Xw2_3 : w2.heap.size < w3.heap.size := by first | omega | (simp at hz3; omega))
    try (have XXw2_3 : w2.heap.size < w3.heap.size + 1 := by omega)
    have b3 : Below w.heap.size w w3 := Below.trans (by (repeat (first | (with_reducible refine Below.drewN ?_) | (with_reducible refine Below.drew ?_) | ((with_reducible refine Below.alloc ?_ ?_ _); rotate_left; (first | omega | (simp <;> omega))) | ((with_reducible refine Below.setCell ?_ ?_ _); rotate_left; (first | omega | (simp <;> omega))) | (with_reducible exact Below.refl _ _) | (with_reducible assumption)))) (hb3.mono (by first | omega | (simp <;> omega)))
    have o1s_3 := OF.below (g := g1s) (a := (some ⟨g1s, 0, none⟩)) (n := n1) (c := n1) (xs := xs1) (by (repeat (first | (with_reducible assumption) | (with_reducible refine OF.draw ?_) | (with_reducible exact OF.made' (by simp) (by simp) (by omega)) | (with_reducible refine OF.alloc ?_ _) | ((with_reducible refine OF.setCell ?_ ?_ _); rotate_left; (first | omega | (simp <;> omega)))))) hb3 (Nat.le_refl _)
    clear o1s_2
    go_wp2_with fail
    refine (c_toTuning' x1 x2 a1 n1 c1 xs1 _ (FS.below (B := w.heap.size) H1.out (by (repeat (first | (with_reducible refine Below.drewN ?_) | (with_reducible refine Below.drew ?_) | ((with_reducible refine Below.alloc ?_ ?_ _); rotate_left; (first | omega | (simp <;> omega))) | ((with_reducible refine Below.setCell ?_ ?_ _); rotate_left; (first | omega | (simp <;> omega))) | (with_reducible exact Below.refl _ _) | (with_reducible assumption)))) (Nat.le_refl _)) (by omega)).mono ?_
    rintro e w4 ⟨g1x, rfl, hb4, l0x, l1x, o1x_4⟩
    obtain ⟨hc4, hf4, hz4⟩ := bcell hb4
    have hk4 := bblk hb4
    have Z4 : w3.heap.size ≤ w4.heap.size := by first | exact hz4 | (simp at hz4; omega) | omega
    try (have ZS4 : w3.heap.size < w4.heap.size := by first | omega | (simp at hz4; omega))
    try (have Xw_4 : w.heap.size < w4.heap.size := by first | omega | (simp at hz4; omega))
    try (have XXw_4 : w.heap.size < w4.heap.size + 1 := by omega)
    try (have Xw2_4 : w2.heap.size < w4.heap.size := by first | omega | (simp at hz4; omega))
    try (have XXw2_4 : w2.heap.size < w4.heap.size + 1 := by omega)
    have b4 : Below w.heap.size w w4 := Below.trans (by (repeat (first | (with_reducible refine Below.drewN ?_) | (with_reducible refine Below.drew ?_) | ((with_reducible refine Below.alloc ?_ ?_ _); rotate_left; (first | omega | (simp <;> omega))) | ((with_reducible refine Below.setCell ?_ ?_ _); rotate_left; (first | omega | (simp <;> omega))) | (with_reducible exact Below.refl _ _) | (with_reducible assumption)))) (hb4.mono (by first | omega | (simp <;> omega)))
    try simp at l0x
    have q1x : w3.heap.size ≤ g1x ∧ g1x < w4.heap.size := by omega
    go_wp2_with fail
    refine (HI.out _ _ _ (FS.below (B := w4.heap.size) o1x_4.fs (by (repeat (first | (with_reducible refine Below.drewN ?_) | (with_reducible refine Below.drew ?_) | ((with_reducible refine Below.alloc ?_ ?_ _); rotate_left; (first | omega | (simp <;> omega))) | ((with_reducible refine Below.setCell ?_ ?_ _); rotate_left; (first | omega | (simp <;> omega))) | (with_reducible exact Below.refl _ _) | (with_reducible assumption)))) (Nat.le_refl _))).mono ?_
    rintro e w5 ⟨tHI, rfl, hb5⟩
    obtain ⟨hc5, hf5, hz5⟩ := bcell hb5
    have hk5 := bblk hb5
    have Z5 : w4.heap.size ≤ w5.heap.size := by first | exact hz5 | (simp at hz5; omega) | omega
    try (have ZS5 : w4.heap.size < w5.heap.size := by first | omega | (simp at hz5; omega))
    try (have Xw_5 : w.heap.size < w5.heap.size := by first | omega | (simp at hz5; omega))
    try (have XXw_5 : w.heap.size < w5.heap.size + 1 := by omega)
    try (have Xw2_5 : w2.heap.size < w5.heap.size := by first | omega | (simp at hz5; omega))
    try (have XXw2_5 : w2.heap.size < w5.heap.size + 1 := by omega)
    try (have Xw4_5 : w4.heap.size < w5.heap.size := by first | omega | (simp at hz5; omega))
    try (have XXw4_5 : w4.heap.size < w5.heap.size + 1 := by omega)
    have b5 : Below w.heap.size w w5 := Below.trans (by (repeat (first | (with_reducible refine Below.drewN ?_) | (with_reducible refine Below.drew ?_) | ((with_reducible refine Below.alloc ?_ ?_ _); rotate_left; (first | omega | (simp <;> omega))) | ((with_reducible refine Below.setCell ?_ ?_ _); rotate_left; (first | omega | (simp <;> omega))) | (with_reducible exact Below.refl _ _) | (with_reducible assumption)))) (hb5.mono (by first | omega | (simp <;> omega)))
    have o1x_5 := OF.below (g := g1x) (a := (some ⟨g1x, 0, none⟩)) (n := n1) (c := n1) (xs := xs1) (by (repeat (first | (with_reducible assumption) | (with_reducible refine OF.draw ?_) | (with_reducible exact OF.made' (by simp) (by simp) (by omega)) | (with_reducible refine OF.alloc ?_ _) | ((with_reducible refine OF.setCell ?_ ?_ _); rotate_left; (first | omega | (simp <;> omega)))))) hb5 (Nat.le_refl _)
    clear o1x_4
    go_wp2_with fail
    refine (c_sameFloatV _ _ _ _).mono ?_
    rintro e w6 ⟨rfl, hb6⟩
    have hb6 : Below w5.heap.size w5 w6 := Below.trans (by (repeat (first | (with_reducible refine Below.drewN ?_) | (with_reducible refine Below.drew ?_) | ((with_reducible refine Below.alloc ?_ ?_ _); rotate_left; (first | omega | (simp <;> omega))) | ((with_reducible refine Below.setCell ?_ ?_ _); rotate_left; (first | omega | (simp <;> omega))) | (with_reducible exact Below.refl _ _) | (with_reducible assumption)))) (hb6.mono (Nat.le_refl _))
    obtain ⟨hc6, hf6, hz6⟩ := bcell hb6
    have hk6 := bblk hb6
    have Z6 : w5.heap.size ≤ w6.heap.size := by first | exact hz6 | (simp at hz6; omega) | omega
    try (have ZS6 : w5.heap.size < w6.heap.size := by first | omega | (simp at hz6; omega))
    try (have Xw_6 : w.heap.size < w6.heap.size := by first | omega | (simp at hz6; omega))
    try (have XXw_6 : w.heap.size < w6.heap.size + 1 := by omega)
    try (have Xw2_6 : w2.heap.size < w6.heap.size := by first | omega | (simp at hz6; omega))
    try (have XXw2_6 : w2.heap.size < w6.heap.size + 1 := by omega)
    try (have Xw4_6 : w4.heap.size < w6.heap.size := by first | omega | (simp at hz6; omega))
    try (have XXw4_6 : w4.heap.size < w6.heap.size + 1 := by omega)
    have b6 : Below w.heap.size w w6 := Below.trans (by (repeat (first | (with_reducible refine Below.drewN ?_) | (with_reducible refine Below.drew ?_) | ((with_reducible refine Below.alloc ?_ ?_ _); rotate_left; (first | omega | (simp <;> omega))) | ((with_reducible refine Below.setCell ?_ ?_ _); rotate_left; (first | omega | (simp <;> omega))) | (with_reducible exact Below.refl _ _) | (with_reducible assumption)))) (hb6.mono (by first | omega | (simp <;> omega)))
    have o1x_6 := OF.below (g := g1x) (a := (some ⟨g1x, 0, none⟩)) (n := n1) (c := n1) (xs := xs1) (by (repeat (first | (with_reducible assumption) | (with_reducible refine OF.draw ?_) | (with_reducible exact OF.made' (by simp) (by simp) (by omega)) | (with_reducible refine OF.alloc ?_ _) | ((with_reducible refine OF.setCell ?_ ?_ _); rotate_left; (first | omega | (simp <;> omega)))))) hb6 (Nat.le_refl _)
    clear o1x_5
    go_wp2_with fail
    refine wp_region_grow [3] [2] (by kernel_rfl) (by kernel_rfl) (by kernel_rfl) ?_
    apply Exists.intro
    iterate 2 (apply lh_o; kernel_rfl; kernel_rfl; kernel_rfl; (intro W hW; have hWc := Grow.cells hW; have hWk := bblk hW; go_simp; exact ⟨OneV.mk _, Grow.refl _⟩))
    apply lh_w (fun g : Nat => Value.agg #[.float .f32 x1, .float .f32 x2, .slice (some ⟨g, 0, none⟩) n1 n1]) (fun g w' => w6.heap.size ≤ g ∧ g < w'.heap.size ∧ OF w' g (some ⟨g, 0, none⟩) n1 n1 xs1) 0 (fun g w w' h hg => ⟨h.1, Nat.lt_of_lt_of_le h.2.1 hg.size, OF.below h.2.2 hg (Nat.le_refl _)⟩) (fun i j h => by simp at h; first | exact h | (obtain ⟨i1, i2⟩ := i; obtain ⟨j1, j2⟩ := j; simp at h; simp [h]))
    kernel_rfl
    kernel_rfl
    kernel_rfl
    · intro W hW
      have hWc := Grow.cells hW
      go_simp
      exact (c_toTuning' x1 x2 a1 n1 c1 xs1 W (FS.below (B := w.heap.size) H1.out (b6.trans (Below.mono hW b6.size)) (Nat.le_refl _)) (by omega)).mono fun e w' ⟨t1, he, hb, l0, l1, o1⟩ => ⟨t1, he, ⟨Nat.le_trans hW.size l0, l1, o1⟩, hb⟩
    exact anti
    intro g
    (apply lh_h; kernel_rfl; kernel_rfl; kernel_rfl; (intro W hW; obtain ⟨hG, hK⟩ := hW; have hWc := Grow.cells hG; go_simp; exact gV (c_eqTuning' _ _ _ _ _ _ _ _ _ _ _ W rfl rfl (FS.below (B := w6.heap.size) o1x_6.fs hG (Nat.le_refl _)) (hK.2.2).fs (Alk.refl _))))
    (apply lh_o; kernel_rfl; kernel_rfl; kernel_rfl; (intro W hW; have hWc := Grow.cells hW; go_simp; exact ⟨OneV.mk _, Grow.refl _⟩))
    refine lh_nil ?_
    intro w7 hW7
    simp only [Act.put, List.setIfInBounds_toArray, List.set_cons_succ, List.set_cons_zero]
    have hb7 : Below w6.heap.size w6 w7 := hW7.1
    clear hW7
    obtain ⟨hc7, hf7, hz7⟩ := bcell hb7
    have hk7 := bblk hb7
    have Z7 : w6.heap.size ≤ w7.heap.size := by first | exact hz7 | (simp at hz7; omega) | omega
    try (have ZS7 : w6.heap.size < w7.heap.size := by first | omega | (simp at hz7; omega))
    try (have Xw_7 : w.heap.size < w7.heap.size := by first | omega | (simp at hz7; omega))
    try (have XXw_7 : w.heap.size < w7.heap.size + 1 := by omega)
    try (have Xw2_7 : w2.heap.size < w7.heap.size := by first | omega | (simp at hz7; omega))
    try (have XXw2_7 : w2.heap.size < w7.heap.size + 1 := by omega)
    try (have Xw4_7 : w4.heap.size < w7.heap.size := by first | omega | (simp at hz7; omega))
    try (have XXw4_7 : w4.heap.size < w7.heap.size + 1 := by omega)
    have b7 : Below w.heap.size w w7 := Below.trans (by (repeat (first | (with_reducible refine Below.drewN ?_) | (with_reducible refine Below.drew ?_) | ((with_reducible refine Below.alloc ?_ ?_ _); rotate_left; (first | omega | (simp <;> omega))) | ((with_reducible refine Below.setCell ?_ ?_ _); rotate_left; (first | omega | (simp <;> omega))) | (with_reducible exact Below.refl _ _) | (with_reducible assumption)))) (hb7.mono (by first | omega | (simp <;> omega)))
    have o1x_7 := OF.below (g := g1x) (a := (some ⟨g1x, 0, none⟩)) (n := n1) (c := n1) (xs := xs1) (by (repeat (first | (with_reducible assumption) | (with_reducible refine OF.draw ?_) | (with_reducible exact OF.made' (by simp) (by simp) (by omega)) | (with_reducible refine OF.alloc ?_ _) | ((with_reducible refine OF.setCell ?_ ?_ _); rotate_left; (first | omega | (simp <;> omega)))))) hb7 (Nat.le_refl _)
    clear o1x_6
    go_wp2
    go_ret
    exact ⟨rfl, by (repeat (first | (with_reducible refine Below.drewN ?_) | (with_reducible refine Below.drew ?_) | ((with_reducible refine Below.alloc ?_ ?_ _); rotate_left; (first | omega | (simp <;> omega))) | ((with_reducible refine Below.setCell ?_ ?_ _); rotate_left; (first | omega | (simp <;> omega))) | (with_reducible exact Below.refl _ _) | (with_reducible assumption)))⟩
  · go_enter Try.func8, Try.ntmps8
    go_wp2_with fail
    refine (c_szTuning_no _ _ _ _ _ (1048576) _ (by omega) (by omega) M1 (by omega)).mono ?_
    rintro e w1 ⟨rfl, hb1⟩
    obtain ⟨hc1, hf1, hz1⟩ := bcell hb1
    have hk1 := bblk hb1
    have Z1 : w.heap.size ≤ w1.heap.size := by first | exact hz1 | (simp at hz1; omega) | omega
    try (have ZS1 : w.heap.size < w1.heap.size := by first | omega | (simp at hz1; omega))
    try (have Xw_1 : w.heap.size < w1.heap.size := by first | omega | (simp at hz1; omega))
    try (have XXw_1 : w.heap.size < w1.heap.size + 1 := by omega)
    have b1 : Below w.heap.size w w1 := Below.trans (by (repeat (first | (with_reducible refine Below.drewN ?_) | (with_reducible refine Below.drew ?_) | ((with_reducible refine Below.alloc ?_ ?_ _); rotate_left; (first | omega | (simp <;> omega))) | ((with_reducible refine Below.setCell ?_ ?_ _); rotate_left; (first | omega | (simp <;> omega))) | (with_reducible exact Below.refl _ _) | (with_reducible assumption)))) (hb1.mono (by first | omega | (simp <;> omega)))
    go_wp2
    go_ret
    exact ⟨rfl, by (repeat (first | (with_reducible refine Below.drewN ?_) | (with_reducible refine Below.drew ?_) | ((with_reducible refine Below.alloc ?_ ?_ _); rotate_left; (first | omega | (simp <;> omega))) | ((with_reducible refine Below.setCell ?_ ?_ _); rotate_left; (first | omega | (simp <;> omega))) | (with_reducible exact Below.refl _ _) | (with_reducible assumption)))⟩


theorem k_KeyCents (x1 x2 : Nat) (a1 : Option Addr) (n1 c1 : Nat) (xs1 : List Nat) (k : Int) (w : World) (h_1 : FS w a1 n1 c1 xs1) :
    Calls Try.prog 8 #[.agg #[.float .f32 x1, .float .f32 x2, .slice a1 n1 c1], .int .i64 k] w (RetV (.bool true) w) := by
  cases hv : tunB x1 x2 xs1 n1
  · exact l_KeyCents x1 x2 a1 n1 c1 xs1 k 0 1 w h_1 (fun W _ _ j => c_sKeyCents_bad _ _ _ _ _ _ k W j hv) (fun W _ _ j => c_KeyCents_bad _ _ _ _ _ _ k W j hv)
  cases hk : inB k (-100) 100
  · exact l_KeyCents x1 x2 a1 n1 c1 xs1 k 0 2 w h_1 (fun W _ _ j => c_sKeyCents_key _ _ _ _ _ _ k W j hv hk) (fun W _ _ j => c_KeyCents_key _ _ _ _ _ _ k W j hv hk)
  · exact l_KeyCents x1 x2 a1 n1 c1 xs1 k _ 0 w h_1 (fun W _ _ j => c_sKeyCents_ok _ _ _ _ _ _ k W j hv hk) (fun W _ _ j => c_KeyCents_ok _ _ _ _ _ _ k W j hv hk)
end Go.Proofs.Ytdhiihmfgmempaa
