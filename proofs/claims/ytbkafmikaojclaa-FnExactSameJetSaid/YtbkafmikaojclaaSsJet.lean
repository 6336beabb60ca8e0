
/-
Contracts of the reference's test whether Jets are the same.
-/
import Derived.Test.YtbkafmikaojclaaSc
namespace Go.Proofs.Ytbkafmikaojclaa
open Go Go.RowKit Fl
set_option maxRecDepth 100000 in
set_option maxHeartbeats 1000000 in
theorem c_l05SameJet (b o b2 o2 : Nat) (a1 : Option Addr) (n1 c1 : Nat) (xs1 : List Nat) (i1 : Int) (a2 : Option Addr) (n2 c2 : Nat) (xs2 : List Nat) (i2 : Int) (k1 : Int) (f1_0 f1_1 f1_2 f1_3 f1_4 : Nat) (k2 : Int) (f2_0 f2_1 f2_2 f2_3 f2_4 : Nat) (x1 : Nat) (x2 : Nat) (y_a1 : Option Addr) (y_n1 y_c1 : Nat) (y_xs1 : List Nat) (y_i1 : Int) (y_a2 : Option Addr) (y_n2 y_c2 : Nat) (y_xs2 : List Nat) (y_i2 : Int) (y_k1 : Int) (y_f1_0 y_f1_1 y_f1_2 y_f1_3 y_f1_4 : Nat) (y_k2 : Int) (y_f2_0 y_f2_1 y_f2_2 y_f2_3 y_f2_4 : Nat) (y_x1 : Nat) (y_x2 : Nat) (w : World) (h_1 : FS w a1 n1 c1 xs1) (h_2 : FS w a2 n2 c2 xs2) (y_h_1 : FS w y_a1 y_n1 y_c1 y_xs1) (y_h_2 : FS w y_a2 y_n2 y_c2 y_xs2)
    (hb : b < w.heap.size) (hb2 : b2 < w.heap.size)
    (e0 : w.cell? ⟨b, o, none⟩ = some (.slice a1 n1 c1))
    (e1 : w.cell? ⟨b, o + 1, none⟩ = some (.int .i64 i1))
    (e2 : w.cell? ⟨b, o + 2, none⟩ = some (.slice a2 n2 c2))
    (e3 : w.cell? ⟨b, o + 3, none⟩ = some (.int .i64 i2))
    (e4 : w.cell? ⟨b, o + 4, none⟩ = some (.int .i64 k1))
    (e5 : w.cell? ⟨b, o + 5, none⟩ = some (.float .f32 f1_0))
    (e6 : w.cell? ⟨b, o + 6, none⟩ = some (.float .f32 f1_1))
    (e7 : w.cell? ⟨b, o + 7, none⟩ = some (.float .f32 f1_2))
    (e8 : w.cell? ⟨b, o + 8, none⟩ = some (.float .f32 f1_3))
    (e9 : w.cell? ⟨b, o + 9, none⟩ = some (.float .f32 f1_4))
    (e10 : w.cell? ⟨b, o + 10, none⟩ = some (.int .i64 k2))
    (e11 : w.cell? ⟨b, o + 11, none⟩ = some (.float .f32 f2_0))
    (e12 : w.cell? ⟨b, o + 12, none⟩ = some (.float .f32 f2_1))
    (e13 : w.cell? ⟨b, o + 13, none⟩ = some (.float .f32 f2_2))
    (e14 : w.cell? ⟨b, o + 14, none⟩ = some (.float .f32 f2_3))
    (e15 : w.cell? ⟨b, o + 15, none⟩ = some (.float .f32 f2_4))
    (e16 : w.cell? ⟨b, o + 16, none⟩ = some (.float .f32 x1))
    (e17 : w.cell? ⟨b, o + 17, none⟩ = some (.float .f32 x2))
    (ey_0 : w.cell? ⟨b2, o2, none⟩ = some (.slice y_a1 y_n1 y_c1))
    (ey_1 : w.cell? ⟨b2, o2 + 1, none⟩ = some (.int .i64 y_i1))
    (ey_2 : w.cell? ⟨b2, o2 + 2, none⟩ = some (.slice y_a2 y_n2 y_c2))
    (ey_3 : w.cell? ⟨b2, o2 + 3, none⟩ = some (.int .i64 y_i2))
    (ey_4 : w.cell? ⟨b2, o2 + 4, none⟩ = some (.int .i64 y_k1))
    (ey_5 : w.cell? ⟨b2, o2 + 5, none⟩ = some (.float .f32 y_f1_0))
    (ey_6 : w.cell? ⟨b2, o2 + 6, none⟩ = some (.float .f32 y_f1_1))
    (ey_7 : w.cell? ⟨b2, o2 + 7, none⟩ = some (.float .f32 y_f1_2))
    (ey_8 : w.cell? ⟨b2, o2 + 8, none⟩ = some (.float .f32 y_f1_3))
    (ey_9 : w.cell? ⟨b2, o2 + 9, none⟩ = some (.float .f32 y_f1_4))
    (ey_10 : w.cell? ⟨b2, o2 + 10, none⟩ = some (.int .i64 y_k2))
    (ey_11 : w.cell? ⟨b2, o2 + 11, none⟩ = some (.float .f32 y_f2_0))
    (ey_12 : w.cell? ⟨b2, o2 + 12, none⟩ = some (.float .f32 y_f2_1))
    (ey_13 : w.cell? ⟨b2, o2 + 13, none⟩ = some (.float .f32 y_f2_2))
    (ey_14 : w.cell? ⟨b2, o2 + 14, none⟩ = some (.float .f32 y_f2_3))
    (ey_15 : w.cell? ⟨b2, o2 + 15, none⟩ = some (.float .f32 y_f2_4))
    (ey_16 : w.cell? ⟨b2, o2 + 16, none⟩ = some (.float .f32 y_x1))
    (ey_17 : w.cell? ⟨b2, o2 + 17, none⟩ = some (.float .f32 y_x2)) :
    Calls Try.prog 79 #[.pointer (some ⟨b, o, none⟩), .pointer (some ⟨b2, o2, none⟩)] w (RetV (.bool ((((((sameR n1 i1 xs1 y_n1 y_i1 y_xs1) && (sameR n2 i2 xs2 y_n2 y_i2 y_xs2)) && (sameF k1 [f1_0, f1_1, f1_2] [f1_3, f1_4] y_k1 [y_f1_0, y_f1_1, y_f1_2] [y_f1_3, y_f1_4])) && (sameF k2 [f2_0, f2_1, f2_2] [f2_3, f2_4] y_k2 [y_f2_0, y_f2_1, y_f2_2] [y_f2_3, y_f2_4])) && (sameB x1 y_x1)) && (sameB x2 y_x2))) w) := by
  have K1 : Hid (∀ W g g2, Grow w W → W.heap[g]? = some (.cells #[.slice a1 n1 c1, .int .i64 i1, .slice a2 n2 c2, .int .i64 i2] 25) → W.heap[g2]? = some (.cells #[.slice y_a1 y_n1 y_c1, .int .i64 y_i1, .slice y_a2 y_n2 y_c2, .int .i64 y_i2] 25) → Calls Try.prog 117 #[.slice (some ⟨g, 0, none⟩) 2 2, .slice (some ⟨g2, 0, none⟩) 2 2] W (RetB ((sameR n1 i1 xs1 y_n1 y_i1 y_xs1) && (sameR n2 i2 xs2 y_n2 y_i2 y_xs2)) W)) := fun W g g2 hW hg hg2 => c_sameRings2 W g g2 _ _ _ _ _ _ _ _ _ _ _ _ _ _ _ _ _ _ _ _ (h_1.below hW (Nat.le_refl _)) (h_2.below hW (Nat.le_refl _)) (y_h_1.below hW (Nat.le_refl _)) (y_h_2.below hW (Nat.le_refl _)) hg hg2
  have K2 : Hid (∀ W, Grow w W → Calls Try.prog 118 #[.pointer (some ⟨b, o + 4, none⟩), .pointer (some ⟨b2, o2 + 4, none⟩)] W (RetB (sameF k1 [f1_0, f1_1, f1_2] [f1_3, f1_4] y_k1 [y_f1_0, y_f1_1, y_f1_2] [y_f1_3, y_f1_4]) W)) := fun W hW => by
    have hc := Grow.cells hW
    refine c_l02Same b (o + 4) b2 (o2 + 4) k1 [f1_0, f1_1, f1_2] [f1_3, f1_4] y_k1 [y_f1_0, y_f1_1, y_f1_2] [y_f1_3, y_f1_4] W ?_ (three _ ?_ ?_ ?_) (two _ ?_ ?_) ?_ (three _ ?_ ?_ ?_) (two _ ?_ ?_) <;> first | (rw [hc _ _ hb] <;> assumption) | (rw [hc _ _ hb2] <;> assumption)
  have K3 : Hid (∀ W, Grow w W → Calls Try.prog 118 #[.pointer (some ⟨b, o + 10, none⟩), .pointer (some ⟨b2, o2 + 10, none⟩)] W (RetB (sameF k2 [f2_0, f2_1, f2_2] [f2_3, f2_4] y_k2 [y_f2_0, y_f2_1, y_f2_2] [y_f2_3, y_f2_4]) W)) := fun W hW => by
    have hc := Grow.cells hW
    refine c_l02Same b (o + 10) b2 (o2 + 10) k2 [f2_0, f2_1, f2_2] [f2_3, f2_4] y_k2 [y_f2_0, y_f2_1, y_f2_2] [y_f2_3, y_f2_4] W ?_ (three _ ?_ ?_ ?_) (two _ ?_ ?_) ?_ (three _ ?_ ?_ ?_) (two _ ?_ ?_) <;> first | (rw [hc _ _ hb] <;> assumption) | (rw [hc _ _ hb2] <;> assumption)
  have K4 : Hid (∀ W, Calls Try.prog 119 #[.float .f32 x1, .float .f32 y_x1] W (RetB (sameB x1 y_x1) W)) := fun W => c_l01Same _ _ W
  have K5 : Hid (∀ W, Calls Try.prog 119 #[.float .f32 x2, .float .f32 y_x2] W (RetB (sameB x2 y_x2) W)) := fun W => c_l01Same _ _ W
  clear h_1 y_h_1 h_2 y_h_2
  rcases (Bool.eq_false_or_eq_true ((sameR n1 i1 xs1 y_n1 y_i1 y_xs1) && (sameR n2 i2 xs2 y_n2 y_i2 y_xs2))).symm with h1 | h1
  · have e : ((((((sameR n1 i1 xs1 y_n1 y_i1 y_xs1) && (sameR n2 i2 xs2 y_n2 y_i2 y_xs2)) && (sameF k1 [f1_0, f1_1, f1_2] [f1_3, f1_4] y_k1 [y_f1_0, y_f1_1, y_f1_2] [y_f1_3, y_f1_4])) && (sameF k2 [f2_0, f2_1, f2_2] [f2_3, f2_4] y_k2 [y_f2_0, y_f2_1, y_f2_2] [y_f2_3, y_f2_4])) && (sameB x1 y_x1)) && (sameB x2 y_x2)) = false := by rw [h1]; simp
    rw [e]
    rw [h1] at K1
    clear e h1
    go_enter Try.func79, Try.ntmps79
    go_wp2
    refine wp_region_grow [18] [8, 17] (by kernel_rfl) (by kernel_rfl) (by kernel_rfl) ?_
    apply Exists.intro
    iterate 8 (apply lh_o; kernel_rfl; kernel_rfl; kernel_rfl; (intro W hW; have hWc := Grow.cells hW; go_simp; exact ⟨OneV.mk _, Grow.refl _⟩))
    (apply lh_new; kernel_rfl; kernel_rfl; kernel_rfl; (intro W hW; have hWc := Grow.cells hW; go_simp; exact ⟨NewAt.mk _ _ _ _, Grow.alloc _ _⟩); intro g hfr)
    iterate 8 (apply lh_o; kernel_rfl; kernel_rfl; kernel_rfl; (intro W hW; have hWc := Grow.cells hW; go_simp; exact ⟨OneV.mk _, Grow.refl _⟩))
    (apply lh_new; kernel_rfl; kernel_rfl; kernel_rfl; (intro W hW; have hWc := Grow.cells hW; go_simp; exact ⟨NewAt.mk _ _ _ _, Grow.alloc _ _⟩); intro g hfr)
    (apply lh_h; kernel_rfl; kernel_rfl; kernel_rfl; (intro W hW; go_simp; first | exact gB (K1.out _ _ _ hW.1.1 hW.1.2 hW.2) | exact gV (K1.out _ _ _ hW.1.1 hW.1.2 hW.2)))
    (apply lh_o; kernel_rfl; kernel_rfl; kernel_rfl; (intro W hW; have hWc := Grow.cells hW; go_simp; exact ⟨OneV.mk _, Grow.refl _⟩))
    iterate 7 (apply lh_skip; kernel_rfl; kernel_rfl)
    iterate 2 (apply lh_o; kernel_rfl; kernel_rfl; kernel_rfl; (intro W hW; have hWc := Grow.cells hW; go_simp; exact ⟨OneV.mk _, Grow.refl _⟩))
    iterate 7 (apply lh_skip; kernel_rfl; kernel_rfl)
    iterate 2 (apply lh_o; kernel_rfl; kernel_rfl; kernel_rfl; (intro W hW; have hWc := Grow.cells hW; go_simp; exact ⟨OneV.mk _, Grow.refl _⟩))
    iterate 9 (apply lh_skip; kernel_rfl; kernel_rfl)
    iterate 2 (apply lh_o; kernel_rfl; kernel_rfl; kernel_rfl; (intro W hW; have hWc := Grow.cells hW; go_simp; exact ⟨OneV.mk _, Grow.refl _⟩))
    iterate 9 (apply lh_skip; kernel_rfl; kernel_rfl)
    iterate 2 (apply lh_o; kernel_rfl; kernel_rfl; kernel_rfl; (intro W hW; have hWc := Grow.cells hW; go_simp; exact ⟨OneV.mk _, Grow.refl _⟩))
    (refine lh_nil ?_; intro W hW; simp only [Act.put, List.setIfInBounds_toArray, List.set_cons_succ, List.set_cons_zero])
    go_wp2
    go_ret
    exact ⟨rfl, hW.1.1⟩

  rw [h1] at K1
  rcases (Bool.eq_false_or_eq_true (sameF k1 [f1_0, f1_1, f1_2] [f1_3, f1_4] y_k1 [y_f1_0, y_f1_1, y_f1_2] [y_f1_3, y_f1_4])).symm with h2 | h2
  · have e : ((((((sameR n1 i1 xs1 y_n1 y_i1 y_xs1) && (sameR n2 i2 xs2 y_n2 y_i2 y_xs2)) && (sameF k1 [f1_0, f1_1, f1_2] [f1_3, f1_4] y_k1 [y_f1_0, y_f1_1, y_f1_2] [y_f1_3, y_f1_4])) && (sameF k2 [f2_0, f2_1, f2_2] [f2_3, f2_4] y_k2 [y_f2_0, y_f2_1, y_f2_2] [y_f2_3, y_f2_4])) && (sameB x1 y_x1)) && (sameB x2 y_x2)) = false := by rw [h1, h2]; simp
    rw [e]
    rw [h2] at K2
    clear e h1 h2
    go_enter Try.func79, Try.ntmps79
    go_wp2
    refine wp_region_grow [18] [8, 17] (by kernel_rfl) (by kernel_rfl) (by kernel_rfl) ?_
    apply Exists.intro
    iterate 8 (apply lh_o; kernel_rfl; kernel_rfl; kernel_rfl; (intro W hW; have hWc := Grow.cells hW; go_simp; exact ⟨OneV.mk _, Grow.refl _⟩))
    (apply lh_new; kernel_rfl; kernel_rfl; kernel_rfl; (intro W hW; have hWc := Grow.cells hW; go_simp; exact ⟨NewAt.mk _ _ _ _, Grow.alloc _ _⟩); intro g hfr)
    iterate 8 (apply lh_o; kernel_rfl; kernel_rfl; kernel_rfl; (intro W hW; have hWc := Grow.cells hW; go_simp; exact ⟨OneV.mk _, Grow.refl _⟩))
    (apply lh_new; kernel_rfl; kernel_rfl; kernel_rfl; (intro W hW; have hWc := Grow.cells hW; go_simp; exact ⟨NewAt.mk _ _ _ _, Grow.alloc _ _⟩); intro g hfr)
    (apply lh_h; kernel_rfl; kernel_rfl; kernel_rfl; (intro W hW; go_simp; first | exact gB (K1.out _ _ _ hW.1.1 hW.1.2 hW.2) | exact gV (K1.out _ _ _ hW.1.1 hW.1.2 hW.2)))
    iterate 7 (apply lh_o; kernel_rfl; kernel_rfl; kernel_rfl; (intro W hW; have hWc := Grow.cells hW; go_simp; exact ⟨OneV.mk _, Grow.refl _⟩))
    (apply lh_o; kernel_rfl; kernel_rfl; kernel_rfl; (intro W hW; go_simp; first | exact gB (K2.out _ hW) | exact gV (K2.out _ hW)))
    iterate 2 (apply lh_o; kernel_rfl; kernel_rfl; kernel_rfl; (intro W hW; have hWc := Grow.cells hW; go_simp; exact ⟨OneV.mk _, Grow.refl _⟩))
    iterate 7 (apply lh_skip; kernel_rfl; kernel_rfl)
    iterate 2 (apply lh_o; kernel_rfl; kernel_rfl; kernel_rfl; (intro W hW; have hWc := Grow.cells hW; go_simp; exact ⟨OneV.mk _, Grow.refl _⟩))
    iterate 9 (apply lh_skip; kernel_rfl; kernel_rfl)
    iterate 2 (apply lh_o; kernel_rfl; kernel_rfl; kernel_rfl; (intro W hW; have hWc := Grow.cells hW; go_simp; exact ⟨OneV.mk _, Grow.refl _⟩))
    iterate 9 (apply lh_skip; kernel_rfl; kernel_rfl)
    iterate 2 (apply lh_o; kernel_rfl; kernel_rfl; kernel_rfl; (intro W hW; have hWc := Grow.cells hW; go_simp; exact ⟨OneV.mk _, Grow.refl _⟩))
    (refine lh_nil ?_; intro W hW; simp only [Act.put, List.setIfInBounds_toArray, List.set_cons_succ, List.set_cons_zero])
    go_wp2
    go_ret
    exact ⟨rfl, hW.1.1⟩

  rw [h2] at K2
  rcases (Bool.eq_false_or_eq_true (sameF k2 [f2_0, f2_1, f2_2] [f2_3, f2_4] y_k2 [y_f2_0, y_f2_1, y_f2_2] [y_f2_3, y_f2_4])).symm with h3 | h3
  · have e : ((((((sameR n1 i1 xs1 y_n1 y_i1 y_xs1) && (sameR n2 i2 xs2 y_n2 y_i2 y_xs2)) && (sameF k1 [f1_0, f1_1, f1_2] [f1_3, f1_4] y_k1 [y_f1_0, y_f1_1, y_f1_2] [y_f1_3, y_f1_4])) && (sameF k2 [f2_0, f2_1, f2_2] [f2_3, f2_4] y_k2 [y_f2_0, y_f2_1, y_f2_2] [y_f2_3, y_f2_4])) && (sameB x1 y_x1)) && (sameB x2 y_x2)) = false := by rw [h1, h2, h3]; simp
    rw [e]
    rw [h3] at K3
    clear e h1 h2 h3
    go_enter Try.func79, Try.ntmps79
    go_wp2
    refine wp_region_grow [18] [8, 17] (by kernel_rfl) (by kernel_rfl) (by kernel_rfl) ?_
    apply Exists.intro
    iterate 8 (apply lh_o; kernel_rfl; kernel_rfl; kernel_rfl; (intro W hW; have hWc := Grow.cells hW; go_simp; exact ⟨OneV.mk _, Grow.refl _⟩))
    (apply lh_new; kernel_rfl; kernel_rfl; kernel_rfl; (intro W hW; have hWc := Grow.cells hW; go_simp; exact ⟨NewAt.mk _ _ _ _, Grow.alloc _ _⟩); intro g hfr)
    iterate 8 (apply lh_o; kernel_rfl; kernel_rfl; kernel_rfl; (intro W hW; have hWc := Grow.cells hW; go_simp; exact ⟨OneV.mk _, Grow.refl _⟩))
    (apply lh_new; kernel_rfl; kernel_rfl; kernel_rfl; (intro W hW; have hWc := Grow.cells hW; go_simp; exact ⟨NewAt.mk _ _ _ _, Grow.alloc _ _⟩); intro g hfr)
    (apply lh_h; kernel_rfl; kernel_rfl; kernel_rfl; (intro W hW; go_simp; first | exact gB (K1.out _ _ _ hW.1.1 hW.1.2 hW.2) | exact gV (K1.out _ _ _ hW.1.1 hW.1.2 hW.2)))
    iterate 7 (apply lh_o; kernel_rfl; kernel_rfl; kernel_rfl; (intro W hW; have hWc := Grow.cells hW; go_simp; exact ⟨OneV.mk _, Grow.refl _⟩))
    (apply lh_o; kernel_rfl; kernel_rfl; kernel_rfl; (intro W hW; go_simp; first | exact gB (K2.out _ hW) | exact gV (K2.out _ hW)))
    iterate 8 (apply lh_o; kernel_rfl; kernel_rfl; kernel_rfl; (intro W hW; have hWc := Grow.cells hW; go_simp; exact ⟨OneV.mk _, Grow.refl _⟩))
    (apply lh_o; kernel_rfl; kernel_rfl; kernel_rfl; (intro W hW; go_simp; first | exact gB (K3.out _ hW) | exact gV (K3.out _ hW)))
    iterate 2 (apply lh_o; kernel_rfl; kernel_rfl; kernel_rfl; (intro W hW; have hWc := Grow.cells hW; go_simp; exact ⟨OneV.mk _, Grow.refl _⟩))
    iterate 9 (apply lh_skip; kernel_rfl; kernel_rfl)
    iterate 2 (apply lh_o; kernel_rfl; kernel_rfl; kernel_rfl; (intro W hW; have hWc := Grow.cells hW; go_simp; exact ⟨OneV.mk _, Grow.refl _⟩))
    iterate 9 (apply lh_skip; kernel_rfl; kernel_rfl)
    iterate 2 (apply lh_o; kernel_rfl; kernel_rfl; kernel_rfl; (intro W hW; have hWc := Grow.cells hW; go_simp; exact ⟨OneV.mk _, Grow.refl _⟩))
    (refine lh_nil ?_; intro W hW; simp only [Act.put, List.setIfInBounds_toArray, List.set_cons_succ, List.set_cons_zero])
    go_wp2
    go_ret
    exact ⟨rfl, hW.1.1⟩

  rw [h3] at K3
  rcases (Bool.eq_false_or_eq_true (sameB x1 y_x1)).symm with h4 | h4
  · have e : ((((((sameR n1 i1 xs1 y_n1 y_i1 y_xs1) && (sameR n2 i2 xs2 y_n2 y_i2 y_xs2)) && (sameF k1 [f1_0, f1_1, f1_2] [f1_3, f1_4] y_k1 [y_f1_0, y_f1_1, y_f1_2] [y_f1_3, y_f1_4])) && (sameF k2 [f2_0, f2_1, f2_2] [f2_3, f2_4] y_k2 [y_f2_0, y_f2_1, y_f2_2] [y_f2_3, y_f2_4])) && (sameB x1 y_x1)) && (sameB x2 y_x2)) = false := by rw [h1, h2, h3, h4]; simp
    rw [e]
    rw [h4] at K4
    clear e h1 h2 h3 h4
    go_enter Try.func79, Try.ntmps79
    go_wp2
    refine wp_region_grow [18] [8, 17] (by kernel_rfl) (by kernel_rfl) (by kernel_rfl) ?_
    apply Exists.intro
    iterate 8 (apply lh_o; kernel_rfl; kernel_rfl; kernel_rfl; (intro W hW; have hWc := Grow.cells hW; go_simp; exact ⟨OneV.mk _, Grow.refl _⟩))
    (apply lh_new; kernel_rfl; kernel_rfl; kernel_rfl; (intro W hW; have hWc := Grow.cells hW; go_simp; exact ⟨NewAt.mk _ _ _ _, Grow.alloc _ _⟩); intro g hfr)
    iterate 8 (apply lh_o; kernel_rfl; kernel_rfl; kernel_rfl; (intro W hW; have hWc := Grow.cells hW; go_simp; exact ⟨OneV.mk _, Grow.refl _⟩))
    (apply lh_new; kernel_rfl; kernel_rfl; kernel_rfl; (intro W hW; have hWc := Grow.cells hW; go_simp; exact ⟨NewAt.mk _ _ _ _, Grow.alloc _ _⟩); intro g hfr)
    (apply lh_h; kernel_rfl; kernel_rfl; kernel_rfl; (intro W hW; go_simp; first | exact gB (K1.out _ _ _ hW.1.1 hW.1.2 hW.2) | exact gV (K1.out _ _ _ hW.1.1 hW.1.2 hW.2)))
    iterate 7 (apply lh_o; kernel_rfl; kernel_rfl; kernel_rfl; (intro W hW; have hWc := Grow.cells hW; go_simp; exact ⟨OneV.mk _, Grow.refl _⟩))
    (apply lh_o; kernel_rfl; kernel_rfl; kernel_rfl; (intro W hW; go_simp; first | exact gB (K2.out _ hW) | exact gV (K2.out _ hW)))
    iterate 8 (apply lh_o; kernel_rfl; kernel_rfl; kernel_rfl; (intro W hW; have hWc := Grow.cells hW; go_simp; exact ⟨OneV.mk _, Grow.refl _⟩))
    (apply lh_o; kernel_rfl; kernel_rfl; kernel_rfl; (intro W hW; go_simp; first | exact gB (K3.out _ hW) | exact gV (K3.out _ hW)))
    iterate 10 (apply lh_o; kernel_rfl; kernel_rfl; kernel_rfl; (intro W hW; have hWc := Grow.cells hW; go_simp; exact ⟨OneV.mk _, Grow.refl _⟩))
    (apply lh_o; kernel_rfl; kernel_rfl; kernel_rfl; (intro W hW; go_simp; first | exact gB (K4.out _) | exact gV (K4.out _)))
    iterate 2 (apply lh_o; kernel_rfl; kernel_rfl; kernel_rfl; (intro W hW; have hWc := Grow.cells hW; go_simp; exact ⟨OneV.mk _, Grow.refl _⟩))
    iterate 9 (apply lh_skip; kernel_rfl; kernel_rfl)
    iterate 2 (apply lh_o; kernel_rfl; kernel_rfl; kernel_rfl; (intro W hW; have hWc := Grow.cells hW; go_simp; exact ⟨OneV.mk _, Grow.refl _⟩))
    (refine lh_nil ?_; intro W hW; simp only [Act.put, List.setIfInBounds_toArray, List.set_cons_succ, List.set_cons_zero])
    go_wp2
    go_ret
    exact ⟨rfl, hW.1.1⟩

  rw [h4] at K4
  have e : ((((((sameR n1 i1 xs1 y_n1 y_i1 y_xs1) && (sameR n2 i2 xs2 y_n2 y_i2 y_xs2)) && (sameF k1 [f1_0, f1_1, f1_2] [f1_3, f1_4] y_k1 [y_f1_0, y_f1_1, y_f1_2] [y_f1_3, y_f1_4])) && (sameF k2 [f2_0, f2_1, f2_2] [f2_3, f2_4] y_k2 [y_f2_0, y_f2_1, y_f2_2] [y_f2_3, y_f2_4])) && (sameB x1 y_x1)) && (sameB x2 y_x2)) = (sameB x2 y_x2) := by rw [h1, h2, h3, h4]; simp
  rw [e]
  clear e h1 h2 h3 h4
  go_enter Try.func79, Try.ntmps79
  go_wp2
  refine wp_region_grow [18] [8, 17] (by kernel_rfl) (by kernel_rfl) (by kernel_rfl) ?_
  apply Exists.intro
  iterate 8 (apply lh_o; kernel_rfl; kernel_rfl; kernel_rfl; (intro W hW; have hWc := Grow.cells hW; go_simp; exact ⟨OneV.mk _, Grow.refl _⟩))
  (apply lh_new; kernel_rfl; kernel_rfl; kernel_rfl; (intro W hW; have hWc := Grow.cells hW; go_simp; exact ⟨NewAt.mk _ _ _ _, Grow.alloc _ _⟩); intro g hfr)
  iterate 8 (apply lh_o; kernel_rfl; kernel_rfl; kernel_rfl; (intro W hW; have hWc := Grow.cells hW; go_simp; exact ⟨OneV.mk _, Grow.refl _⟩))
  (apply lh_new; kernel_rfl; kernel_rfl; kernel_rfl; (intro W hW; have hWc := Grow.cells hW; go_simp; exact ⟨NewAt.mk _ _ _ _, Grow.alloc _ _⟩); intro g hfr)
  (apply lh_h; kernel_rfl; kernel_rfl; kernel_rfl; (intro W hW; go_simp; first | exact gB (K1.out _ _ _ hW.1.1 hW.1.2 hW.2) | exact gV (K1.out _ _ _ hW.1.1 hW.1.2 hW.2)))
  iterate 7 (apply lh_o; kernel_rfl; kernel_rfl; kernel_rfl; (intro W hW; have hWc := Grow.cells hW; go_simp; exact ⟨OneV.mk _, Grow.refl _⟩))
  (apply lh_o; kernel_rfl; kernel_rfl; kernel_rfl; (intro W hW; go_simp; first | exact gB (K2.out _ hW) | exact gV (K2.out _ hW)))
  iterate 8 (apply lh_o; kernel_rfl; kernel_rfl; kernel_rfl; (intro W hW; have hWc := Grow.cells hW; go_simp; exact ⟨OneV.mk _, Grow.refl _⟩))
  (apply lh_o; kernel_rfl; kernel_rfl; kernel_rfl; (intro W hW; go_simp; first | exact gB (K3.out _ hW) | exact gV (K3.out _ hW)))
  iterate 10 (apply lh_o; kernel_rfl; kernel_rfl; kernel_rfl; (intro W hW; have hWc := Grow.cells hW; go_simp; exact ⟨OneV.mk _, Grow.refl _⟩))
  (apply lh_o; kernel_rfl; kernel_rfl; kernel_rfl; (intro W hW; go_simp; first | exact gB (K4.out _) | exact gV (K4.out _)))
  iterate 10 (apply lh_o; kernel_rfl; kernel_rfl; kernel_rfl; (intro W hW; have hWc := Grow.cells hW; go_simp; exact ⟨OneV.mk _, Grow.refl _⟩))
  (apply lh_o; kernel_rfl; kernel_rfl; kernel_rfl; (intro W hW; go_simp; first | exact gB (K5.out _) | exact gV (K5.out _)))
  iterate 2 (apply lh_o; kernel_rfl; kernel_rfl; kernel_rfl; (intro W hW; have hWc := Grow.cells hW; go_simp; exact ⟨OneV.mk _, Grow.refl _⟩))
  (refine lh_nil ?_; intro W hW; simp only [Act.put, List.setIfInBounds_toArray, List.set_cons_succ, List.set_cons_zero])
  go_wp2
  go_ret
  exact ⟨rfl, hW.1.1⟩

theorem c_sSameJet (a1 : Option Addr) (n1 c1 : Nat) (xs1 : List Nat) (i1 : Int) (a2 : Option Addr) (n2 c2 : Nat) (xs2 : List Nat) (i2 : Int) (k1 : Int) (f1_0 f1_1 f1_2 f1_3 f1_4 : Nat) (k2 : Int) (f2_0 f2_1 f2_2 f2_3 f2_4 : Nat) (x1 : Nat) (x2 : Nat) (y_a1 : Option Addr) (y_n1 y_c1 : Nat) (y_xs1 : List Nat) (y_i1 : Int) (y_a2 : Option Addr) (y_n2 y_c2 : Nat) (y_xs2 : List Nat) (y_i2 : Int) (y_k1 : Int) (y_f1_0 y_f1_1 y_f1_2 y_f1_3 y_f1_4 : Nat) (y_k2 : Int) (y_f2_0 y_f2_1 y_f2_2 y_f2_3 y_f2_4 : Nat) (y_x1 : Nat) (y_x2 : Nat) (w : World) (h_1 : FS w a1 n1 c1 xs1) (h_2 : FS w a2 n2 c2 xs2) (y_h_1 : FS w y_a1 y_n1 y_c1 y_xs1) (y_h_2 : FS w y_a2 y_n2 y_c2 y_xs2) :
    Calls Try.prog 26 #[.agg #[.slice a1 n1 c1, .int .i64 i1, .slice a2 n2 c2, .int .i64 i2, .int .i64 k1, .float .f32 f1_0, .float .f32 f1_1, .float .f32 f1_2, .float .f32 f1_3, .float .f32 f1_4, .int .i64 k2, .float .f32 f2_0, .float .f32 f2_1, .float .f32 f2_2, .float .f32 f2_3, .float .f32 f2_4, .float .f32 x1, .float .f32 x2], .agg #[.slice y_a1 y_n1 y_c1, .int .i64 y_i1, .slice y_a2 y_n2 y_c2, .int .i64 y_i2, .int .i64 y_k1, .float .f32 y_f1_0, .float .f32 y_f1_1, .float .f32 y_f1_2, .float .f32 y_f1_3, .float .f32 y_f1_4, .int .i64 y_k2, .float .f32 y_f2_0, .float .f32 y_f2_1, .float .f32 y_f2_2, .float .f32 y_f2_3, .float .f32 y_f2_4, .float .f32 y_x1, .float .f32 y_x2]] w (RetV (.bool ((((((sameR n1 i1 xs1 y_n1 y_i1 y_xs1) && (sameR n2 i2 xs2 y_n2 y_i2 y_xs2)) && (sameF k1 [f1_0, f1_1, f1_2] [f1_3, f1_4] y_k1 [y_f1_0, y_f1_1, y_f1_2] [y_f1_3, y_f1_4])) && (sameF k2 [f2_0, f2_1, f2_2] [f2_3, f2_4] y_k2 [y_f2_0, y_f2_1, y_f2_2] [y_f2_3, y_f2_4])) && (sameB x1 y_x1)) && (sameB x2 y_x2))) w) := by
  have H1 := Lib.hid h_1
  have y_H1 := Lib.hid y_h_1
  have H2 := Lib.hid h_2
  have y_H2 := Lib.hid y_h_2
  clear h_1 y_h_1 h_2 y_h_2
  go_enter Try.func26, Try.ntmps26
  go_wp2_with fail
  refine (c_l05SameJet _ 0 _ 0 a1 n1 c1 xs1 i1 a2 n2 c2 xs2 i2 k1 f1_0 f1_1 f1_2 f1_3 f1_4 k2 f2_0 f2_1 f2_2 f2_3 f2_4 x1 x2 y_a1 y_n1 y_c1 y_xs1 y_i1 y_a2 y_n2 y_c2 y_xs2 y_i2 y_k1 y_f1_0 y_f1_1 y_f1_2 y_f1_3 y_f1_4 y_k2 y_f2_0 y_f2_1 y_f2_2 y_f2_3 y_f2_4 y_x1 y_x2 _ (FS.below (B := w.heap.size) H1.out (by (repeat (first | (with_reducible refine Below.drewN ?_) | (with_reducible refine Below.drew ?_) | ((with_reducible refine Below.alloc ?_ ?_ _); rotate_left; (first | omega | (simp <;> omega))) | ((with_reducible refine Below.setCell ?_ ?_ _); rotate_left; (first | omega | (simp <;> omega))) | (with_reducible exact Below.refl _ _) | (with_reducible assumption)))) (Nat.le_refl _)) (FS.below (B := w.heap.size) H2.out (by (repeat (first | (with_reducible refine Below.drewN ?_) | (with_reducible refine Below.drew ?_) | ((with_reducible refine Below.alloc ?_ ?_ _); rotate_left; (first | omega | (simp <;> omega))) | ((with_reducible refine Below.setCell ?_ ?_ _); rotate_left; (first | omega | (simp <;> omega))) | (with_reducible exact Below.refl _ _) | (with_reducible assumption)))) (Nat.le_refl _)) (FS.below (B := w.heap.size) y_H1.out (by (repeat (first | (with_reducible refine Below.drewN ?_) | (with_reducible refine Below.drew ?_) | ((with_reducible refine Below.alloc ?_ ?_ _); rotate_left; (first | omega | (simp <;> omega))) | ((with_reducible refine Below.setCell ?_ ?_ _); rotate_left; (first | omega | (simp <;> omega))) | (with_reducible exact Below.refl _ _) | (with_reducible assumption)))) (Nat.le_refl _)) (FS.below (B := w.heap.size) y_H2.out (by (repeat (first | (with_reducible refine Below.drewN ?_) | (with_reducible refine Below.drew ?_) | ((with_reducible refine Below.alloc ?_ ?_ _); rotate_left; (first | omega | (simp <;> omega))) | ((with_reducible refine Below.setCell ?_ ?_ _); rotate_left; (first | omega | (simp <;> omega))) | (with_reducible exact Below.refl _ _) | (with_reducible assumption)))) (Nat.le_refl _)) (by simp; omega) (by simp) (by simp) (by simp) (by simp) (by simp) (by simp) (by simp) (by simp) (by simp) (by simp) (by simp) (by simp) (by simp) (by simp) (by simp) (by simp) (by simp) (by simp) (by simp) (by simp) (by simp) (by simp) (by simp) (by simp) (by simp) (by simp) (by simp) (by simp) (by simp) (by simp) (by simp) (by simp) (by simp) (by simp) (by simp) (by simp) (by simp)).mono ?_
  rintro e w1 ⟨rfl, hb1⟩
  obtain ⟨hc1, hf1, hz1⟩ := bcell hb1
  try simp at hz1
  have zb1 : w.heap.size ≤ w1.heap.size := by omega
  try (have z1_0 : w.heap.size < w1.heap.size := by omega)
  try (have z1_1 : w.heap.size + 1 < w1.heap.size := by omega)
  try (have z1_2 : w.heap.size + 1 + 1 < w1.heap.size := by omega)
  try (have z1_3 : w.heap.size + 1 + 1 + 1 < w1.heap.size := by omega)
  have b1 : Below w.heap.size w w1 := Below.trans (by (repeat (first | (with_reducible refine Below.drewN ?_) | (with_reducible refine Below.drew ?_) | ((with_reducible refine Below.alloc ?_ ?_ _); rotate_left; (first | omega | (simp <;> omega))) | ((with_reducible refine Below.setCell ?_ ?_ _); rotate_left; (first | omega | (simp <;> omega))) | (with_reducible exact Below.refl _ _) | (with_reducible assumption)))) (hb1.mono (by first | omega | (simp <;> omega)))
  go_wp2
  go_ret
  exact ⟨rfl, by (repeat (first | (with_reducible refine Below.drewN ?_) | (with_reducible refine Below.drew ?_) | ((with_reducible refine Below.alloc ?_ ?_ _); rotate_left; (first | omega | (simp <;> omega))) | ((with_reducible refine Below.setCell ?_ ?_ _); rotate_left; (first | omega | (simp <;> omega))) | (with_reducible exact Below.refl _ _) | (with_reducible assumption)))⟩


end Go.Proofs.Ytbkafmikaojclaa
