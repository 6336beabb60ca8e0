
/-
Contracts of the reference's tests of bows and jets.
-/
import Derived.Test.YtbdanadmabemdaaDoorRh
import Derived.Test.YtbdanadmabemdaaDoorBo
import Derived.Test.YtbdanadmabemdaaDoorLi
namespace Go.Proofs.YtbdanadmabemdaaDoor
open Go Go.RowKit Fl
theorem c_rings2 (W : World) (g : Nat) (a1 : Option Addr) (n1 c1 : Nat) (xs1 : List Nat) (i1 : Int) (a2 : Option Addr) (n2 c2 : Nat) (xs2 : List Nat) (i2 : Int) (h_1 : FS W a1 n1 c1 xs1) (h_2 : FS W a2 n2 c2 xs2) {T : TypeId}
    (hg : W.heap[g]? = some (.cells #[.slice a1 n1 c1, .int .i64 i1, .slice a2 n2 c2, .int .i64 i2] T)) :
    Calls Tryd.prog 47 #[.slice (some ⟨g, 0, none⟩) 2 2] W (RetB ((ringB n1 i1 && finTo xs1 n1) && (ringB n2 i2 && finTo xs2 n2)) W) :=
  c_l04Rings g 0 [⟨a1, n1, c1, xs1, i1⟩, ⟨a2, n2, c2, xs2, i2⟩] 2 W (by simp) (two _ ⟨cell_block hg _, cell_block hg _, h_1⟩ ⟨cell_block hg _, cell_block hg _, h_2⟩)
theorem c_nums2 (W : World) (g : Nat) (x1 x2 : Nat) {T : TypeId} (hg : W.heap[g]? = some (.cells #[.float .f32 x1, .float .f32 x2] T)) :
    Calls Tryd.prog 49 #[.slice (some ⟨g, 0, none⟩) 2 2] W (RetB (finTo [x1, x2] 2) W) :=
  c_l04All _ 2 2 [x1, x2] W ⟨rfl, Nat.le_refl _, by omega, fun _ => ⟨g, 0, rfl, (Array.getElem?_eq_some_iff.1 hg).1, two _ (cell_block hg _) (cell_block hg _)⟩⟩
set_option maxRecDepth 100000 in
set_option maxHeartbeats 1000000 in
theorem c_l05Bow (b o : Nat) (a1 : Option Addr) (n1 c1 : Nat) (xs1 : List Nat) (i1 : Int) (a2 : Option Addr) (n2 c2 : Nat) (xs2 : List Nat) (i2 : Int) (k1 : Int) (f1_0 f1_1 f1_2 f1_3 f1_4 : Nat) (x1 : Nat) (x2 : Nat) (w : World) (h_1 : FS w a1 n1 c1 xs1) (h_2 : FS w a2 n2 c2 xs2)
    (hb : b < w.heap.size)
    (e0 : w.cell? ⟨b, o, none⟩ = some (.slice a1 n1 c1))
    (e1 : w.cell? ⟨b, o + 1, none⟩ = some (.int .i64 i1))
    (e2 : w.cell? ⟨b, o + 2, none⟩ = some (.slice a2 n2 c2))
    (e3 : w.cell? ⟨b, o + 3, none⟩ = some (.int .i64 i2))
    (e4 : w.cell? ⟨b, o + 4, none⟩ = some (.int .i64 k1))
    (e5 : w.cell? ⟨b, o + 5, none⟩ = some (.float .f32 f1_0))
    (e6 : w.cell? ⟨b, o + 6, none⟩ = some (.float .f32 f1_1))
    (e7 : w.cell? ⟨b, o + 7, none⟩ = some (.float .f32 f1_2))
    (e8 : w.cell? ⟨b, o + 8, none⟩ = some (.float .f32 f1_3))
    (e9 : w.cell? ⟨b, o + 9, none⟩ = some (.float .f32 f1_4))
    (e10 : w.cell? ⟨b, o + 10, none⟩ = some (.float .f32 x1))
    (e11 : w.cell? ⟨b, o + 11, none⟩ = some (.float .f32 x2)) :
    Calls Tryd.prog 22 #[.pointer (some ⟨b, o, none⟩)] w (RetV (.bool ((((ringB n1 i1 && finTo xs1 n1) && (ringB n2 i2 && finTo xs2 n2)) && (okF k1 [f1_0, f1_1, f1_2] [f1_3, f1_4] && (k1 == 1))) && (finTo [x1, x2] 2))) w) := by
  have K1 : Hid (∀ W g, Grow w W → W.heap[g]? = some (.cells #[.slice a1 n1 c1, .int .i64 i1, .slice a2 n2 c2, .int .i64 i2] 34) → Calls Tryd.prog 47 #[.slice (some ⟨g, 0, none⟩) 2 2] W (RetB ((ringB n1 i1 && finTo xs1 n1) && (ringB n2 i2 && finTo xs2 n2)) W)) := fun W g hW hg => c_rings2 W g _ _ _ _ _ _ _ _ _ _ (h_1.below hW (Nat.le_refl _)) (h_2.below hW (Nat.le_refl _)) hg
  have K2 : Hid (∀ W, Grow w W → Calls Tryd.prog 48 #[.pointer (some ⟨b, o + 4, none⟩)] W (RetB (okF k1 [f1_0, f1_1, f1_2] [f1_3, f1_4]) W)) := fun W hW => by
    have hc := Grow.cells hW
    refine c_l02Ok b (o + 4) k1 [f1_0, f1_1, f1_2] [f1_3, f1_4] W ?_ (three _ ?_ ?_ ?_) (two _ ?_ ?_) <;> rw [hc _ _ hb] <;> assumption
  have K4 : Hid (∀ W g, W.heap[g]? = some (.cells #[.float .f32 x1, .float .f32 x2] 25) → Calls Tryd.prog 49 #[.slice (some ⟨g, 0, none⟩) 2 2] W (RetB (finTo [x1, x2] 2) W)) := fun W g hg => c_nums2 W g _ _ hg
  clear h_1 h_2
  rcases (Bool.eq_false_or_eq_true ((ringB n1 i1 && finTo xs1 n1) && (ringB n2 i2 && finTo xs2 n2))).symm with h1 | h1
  · have e : ((((ringB n1 i1 && finTo xs1 n1) && (ringB n2 i2 && finTo xs2 n2)) && (okF k1 [f1_0, f1_1, f1_2] [f1_3, f1_4] && (k1 == 1))) && (finTo [x1, x2] 2)) = false := by rw [h1]; simp
    rw [e]
    rw [h1] at K1
    clear e h1
    go_enter Tryd.func22, Tryd.ntmps22
    go_wp2
    refine wp_region_grow [9] [8] (by kernel_rfl) (by kernel_rfl) (by kernel_rfl) ?_
    apply Exists.intro
    iterate 8 (apply lh_o; kernel_rfl; kernel_rfl; kernel_rfl; (intro W hW; have hWc := Grow.cells hW; go_simp; exact ⟨OneV.mk _, Grow.refl _⟩))
    (apply lh_new; kernel_rfl; kernel_rfl; kernel_rfl; (intro W hW; have hWc := Grow.cells hW; go_simp; exact ⟨NewAt.mk _ _ _ _, Grow.alloc _ _⟩); intro g hfr)
    (apply lh_h; kernel_rfl; kernel_rfl; kernel_rfl; (intro W hW; go_simp; first | exact gB (K1.out _ _ hW.1 hW.2) | exact gV (K1.out _ _ hW.1 hW.2)))
    (apply lh_o; kernel_rfl; kernel_rfl; kernel_rfl; (intro W hW; have hWc := Grow.cells hW; go_simp; exact ⟨OneV.mk _, Grow.refl _⟩))
    iterate 4 (apply lh_skip; kernel_rfl; kernel_rfl)
    iterate 2 (apply lh_o; kernel_rfl; kernel_rfl; kernel_rfl; (intro W hW; have hWc := Grow.cells hW; go_simp; exact ⟨OneV.mk _, Grow.refl _⟩))
    iterate 6 (apply lh_skip; kernel_rfl; kernel_rfl)
    iterate 2 (apply lh_o; kernel_rfl; kernel_rfl; kernel_rfl; (intro W hW; have hWc := Grow.cells hW; go_simp; exact ⟨OneV.mk _, Grow.refl _⟩))
    iterate 10 (apply lh_skip; kernel_rfl; kernel_rfl)
    iterate 2 (apply lh_o; kernel_rfl; kernel_rfl; kernel_rfl; (intro W hW; have hWc := Grow.cells hW; go_simp; exact ⟨OneV.mk _, Grow.refl _⟩))
    (refine lh_nil ?_; intro W hW; simp only [Act.put, List.setIfInBounds_toArray, List.set_cons_succ, List.set_cons_zero])
    go_wp2
    go_ret
    exact ⟨rfl, hW.1⟩

  rw [h1] at K1
  rcases (Bool.eq_false_or_eq_true (okF k1 [f1_0, f1_1, f1_2] [f1_3, f1_4])).symm with h2 | h2
  · have e : ((((ringB n1 i1 && finTo xs1 n1) && (ringB n2 i2 && finTo xs2 n2)) && (okF k1 [f1_0, f1_1, f1_2] [f1_3, f1_4] && (k1 == 1))) && (finTo [x1, x2] 2)) = false := by rw [h1, h2]; simp
    rw [e]
    rw [h2] at K2
    clear e h1 h2
    go_enter Tryd.func22, Tryd.ntmps22
    go_wp2
    refine wp_region_grow [9] [8] (by kernel_rfl) (by kernel_rfl) (by kernel_rfl) ?_
    apply Exists.intro
    iterate 8 (apply lh_o; kernel_rfl; kernel_rfl; kernel_rfl; (intro W hW; have hWc := Grow.cells hW; go_simp; exact ⟨OneV.mk _, Grow.refl _⟩))
    (apply lh_new; kernel_rfl; kernel_rfl; kernel_rfl; (intro W hW; have hWc := Grow.cells hW; go_simp; exact ⟨NewAt.mk _ _ _ _, Grow.alloc _ _⟩); intro g hfr)
    (apply lh_h; kernel_rfl; kernel_rfl; kernel_rfl; (intro W hW; go_simp; first | exact gB (K1.out _ _ hW.1 hW.2) | exact gV (K1.out _ _ hW.1 hW.2)))
    iterate 4 (apply lh_o; kernel_rfl; kernel_rfl; kernel_rfl; (intro W hW; have hWc := Grow.cells hW; go_simp; exact ⟨OneV.mk _, Grow.refl _⟩))
    (apply lh_o; kernel_rfl; kernel_rfl; kernel_rfl; (intro W hW; go_simp; first | exact gB (K2.out _ hW) | exact gV (K2.out _ hW)))
    iterate 2 (apply lh_o; kernel_rfl; kernel_rfl; kernel_rfl; (intro W hW; have hWc := Grow.cells hW; go_simp; exact ⟨OneV.mk _, Grow.refl _⟩))
    iterate 6 (apply lh_skip; kernel_rfl; kernel_rfl)
    iterate 2 (apply lh_o; kernel_rfl; kernel_rfl; kernel_rfl; (intro W hW; have hWc := Grow.cells hW; go_simp; exact ⟨OneV.mk _, Grow.refl _⟩))
    iterate 10 (apply lh_skip; kernel_rfl; kernel_rfl)
    iterate 2 (apply lh_o; kernel_rfl; kernel_rfl; kernel_rfl; (intro W hW; have hWc := Grow.cells hW; go_simp; exact ⟨OneV.mk _, Grow.refl _⟩))
    (refine lh_nil ?_; intro W hW; simp only [Act.put, List.setIfInBounds_toArray, List.set_cons_succ, List.set_cons_zero])
    go_wp2
    go_ret
    exact ⟨rfl, hW.1⟩

  rw [h2] at K2
  rcases (Bool.eq_false_or_eq_true (k1 == 1)).symm with h3 | h3
  · have e : ((((ringB n1 i1 && finTo xs1 n1) && (ringB n2 i2 && finTo xs2 n2)) && (okF k1 [f1_0, f1_1, f1_2] [f1_3, f1_4] && (k1 == 1))) && (finTo [x1, x2] 2)) = false := by rw [h1, h2, h3]; simp
    rw [e]
    clear e h1 h2
    go_enter Tryd.func22, Tryd.ntmps22
    go_wp2
    refine wp_region_grow [9] [8] (by kernel_rfl) (by kernel_rfl) (by kernel_rfl) ?_
    apply Exists.intro
    iterate 8 (apply lh_o; kernel_rfl; kernel_rfl; kernel_rfl; (intro W hW; have hWc := Grow.cells hW; go_simp; exact ⟨OneV.mk _, Grow.refl _⟩))
    (apply lh_new; kernel_rfl; kernel_rfl; kernel_rfl; (intro W hW; have hWc := Grow.cells hW; go_simp; exact ⟨NewAt.mk _ _ _ _, Grow.alloc _ _⟩); intro g hfr)
    (apply lh_h; kernel_rfl; kernel_rfl; kernel_rfl; (intro W hW; go_simp; first | exact gB (K1.out _ _ hW.1 hW.2) | exact gV (K1.out _ _ hW.1 hW.2)))
    iterate 4 (apply lh_o; kernel_rfl; kernel_rfl; kernel_rfl; (intro W hW; have hWc := Grow.cells hW; go_simp; exact ⟨OneV.mk _, Grow.refl _⟩))
    (apply lh_o; kernel_rfl; kernel_rfl; kernel_rfl; (intro W hW; go_simp; first | exact gB (K2.out _ hW) | exact gV (K2.out _ hW)))
    iterate 10 (apply lh_o; kernel_rfl; kernel_rfl; kernel_rfl; (intro W hW; have hWc := Grow.cells hW; go_simp; exact ⟨OneV.mk _, Grow.refl _⟩))
    iterate 10 (apply lh_skip; kernel_rfl; kernel_rfl)
    iterate 2 (apply lh_o; kernel_rfl; kernel_rfl; kernel_rfl; (intro W hW; have hWc := Grow.cells hW; go_simp; exact ⟨OneV.mk _, Grow.refl _⟩))
    (refine lh_nil ?_; intro W hW; simp only [Act.put, List.setIfInBounds_toArray, List.set_cons_succ, List.set_cons_zero])
    go_wp2
    go_ret
    exact ⟨rfl, hW.1⟩

  have e : ((((ringB n1 i1 && finTo xs1 n1) && (ringB n2 i2 && finTo xs2 n2)) && (okF k1 [f1_0, f1_1, f1_2] [f1_3, f1_4] && (k1 == 1))) && (finTo [x1, x2] 2)) = (finTo [x1, x2] 2) := by rw [h1, h2, h3]; simp
  rw [e]
  clear e h1 h2
  go_enter Tryd.func22, Tryd.ntmps22
  go_wp2
  refine wp_region_grow [9, 34] [8, 33] (by kernel_rfl) (by kernel_rfl) (by kernel_rfl) ?_
  apply Exists.intro
  iterate 8 (apply lh_o; kernel_rfl; kernel_rfl; kernel_rfl; (intro W hW; have hWc := Grow.cells hW; go_simp; exact ⟨OneV.mk _, Grow.refl _⟩))
  (apply lh_new; kernel_rfl; kernel_rfl; kernel_rfl; (intro W hW; have hWc := Grow.cells hW; go_simp; exact ⟨NewAt.mk _ _ _ _, Grow.alloc _ _⟩); intro g hfr)
  (apply lh_h; kernel_rfl; kernel_rfl; kernel_rfl; (intro W hW; go_simp; first | exact gB (K1.out _ _ hW.1 hW.2) | exact gV (K1.out _ _ hW.1 hW.2)))
  iterate 4 (apply lh_o; kernel_rfl; kernel_rfl; kernel_rfl; (intro W hW; have hWc := Grow.cells hW; go_simp; exact ⟨OneV.mk _, Grow.refl _⟩))
  (apply lh_o; kernel_rfl; kernel_rfl; kernel_rfl; (intro W hW; go_simp; first | exact gB (K2.out _ hW) | exact gV (K2.out _ hW)))
  iterate 18 (apply lh_o; kernel_rfl; kernel_rfl; kernel_rfl; (intro W hW; have hWc := Grow.cells hW; go_simp; exact ⟨OneV.mk _, Grow.refl _⟩))
  (apply lh_new; kernel_rfl; kernel_rfl; kernel_rfl; (intro W hW; have hWc := Grow.cells hW; go_simp; exact ⟨NewAt.mk _ _ _ _, Grow.alloc _ _⟩); intro g hfr)
  (apply lh_h; kernel_rfl; kernel_rfl; kernel_rfl; (intro W hW; go_simp; first | exact gB (K4.out _ _ hW.2) | exact gV (K4.out _ _ hW.2)))
  iterate 2 (apply lh_o; kernel_rfl; kernel_rfl; kernel_rfl; (intro W hW; have hWc := Grow.cells hW; go_simp; exact ⟨OneV.mk _, Grow.refl _⟩))
  (refine lh_nil ?_; intro W hW; simp only [Act.put, List.setIfInBounds_toArray, List.set_cons_succ, List.set_cons_zero])
  go_wp2
  go_ret
  exact ⟨rfl, hW.1.1⟩

end Go.Proofs.YtbdanadmabemdaaDoor
