
/-
The walk of the law of the text of a pipe.
-/
import Derived.Test.YtbdanadmabemdaaDoorPl
namespace Go.Proofs.YtbdanadmabemdaaDoor
open Go Go.RowKit Fl
set_option maxRecDepth 100000 in
set_option maxHeartbeats 4000000 in
theorem l_PipeText (a1 : Option Addr) (n1 c1 : Nat) (rs1 : List Rg) (a2 : Option Addr) (n2 c2 : Nat) (rs2 : List Rg) (a3 : Option Addr) (n3 c3 : Nat) (xs3 : List Nat) (k : Int) (f0 f1 f2 f3 f4 : Nat) (op : Bool) (x1 x2 x3 : Nat) (v : ByteArray) (w : World) (T : World → Prop) (T0 : ∀ w1 w2 B, T w1 → Below B w1 w2 → w1.heap.size ≤ B → T w2) (hT : T w) (h1 : RS w a1 n1 c1 rs1) (h2 : RS w a2 n2 c2 rs2) (h3 : FS w a3 n3 c3 xs3)
    (HS : ∀ W (d1 d2 d3 : Option Addr) (e1 e2 e3 : Nat) (ss1 ss2 : List Rg), T W → RS W d1 n1 e1 ss1 → RS W d2 n2 e2 ss2 → FS W d3 n3 e3 xs3 → sameC rs1 ss1 n1 → sameC rs2 ss2 n2 → Calls Tryd.prog 17 #[.agg #[.slice d1 n1 e1, .slice d2 n2 e2, .slice d3 n3 e3, .int .i64 k, .float .f32 f0, .float .f32 f1, .float .f32 f2, .float .f32 f3, .float .f32 f4, .bool op, .float .f32 x1, .float .f32 x2, .float .f32 x3]] W (RetV (.string v) W))
    (HI : ∀ W (d1 d2 d3 : Option Addr) (e1 e2 e3 : Nat) (ss1 ss2 : List Rg), T W → RS W d1 n1 e1 ss1 → RS W d2 n2 e2 ss2 → FS W d3 n3 e3 xs3 → sameC rs1 ss1 n1 → sameC rs2 ss2 n2 → Calls Tryd.prog 19 #[.agg #[.slice d1 n1 e1, .slice d2 n2 e2, .slice d3 n3 e3, .int .i64 k, .float .f32 f0, .float .f32 f1, .float .f32 f2, .float .f32 f3, .float .f32 f4, .bool op, .float .f32 x1, .float .f32 x2, .float .f32 x3]] W (RetV (.string v) W)) :
    Calls Tryd.prog 5 #[.agg #[.slice a1 n1 c1, .slice a2 n2 c2, .slice a3 n3 c3, .int .i64 k, .float .f32 f0, .float .f32 f1, .float .f32 f2, .float .f32 f3, .float .f32 f4, .bool op, .float .f32 x1, .float .f32 x2, .float .f32 x3]] w (RetV (.bool true) w) := by
  have HS := Lib.hid HS
  have HI := Lib.hid HI
  have TT := Lib.hid hT
  have TB := Lib.hid T0
  clear hT T0
  have H1 := Lib.hid h1
  clear h1
  have H2 := Lib.hid h2
  clear h2
  have H3 := Lib.hid h3
  clear h3
  by_cases ht : (n1 : Int) + (rgSum rs1 n1 : Int) + (n2 : Int) + (rgSum rs2 n2 : Int) + (n3 : Int) ≤ 1048576
  rotate_left
  · go_enter Tryd.func5, Tryd.ntmps5
    have G0 : Below w.heap.size w (w.alloc (.cells #[.slice a1 n1 c1, .slice a2 n2 c2, .slice a3 n3 c3, .int .i64 k, .float .f32 f0, .float .f32 f1, .float .f32 f2, .float .f32 f3, .float .f32 f4, .bool op, .float .f32 x1, .float .f32 x2, .float .f32 x3] 52)) := Below.alloc (Below.refl _ _) (Nat.le_refl _) _
    go_wp2_with fail
    refine (c_szPipe_no a1 n1 c1 rs1 a2 n2 c2 rs2 a3 n3 c3 xs3 k f0 f1 f2 f3 f4 op x1 x2 x3 _ (RS.below (B := w.heap.size) H1.out (G0) (Nat.le_refl _)) (RS.below (B := w.heap.size) H2.out (G0) (Nat.le_refl _)) (FS.below (B := w.heap.size) H3.out (G0) (Nat.le_refl _)) (by omega)).mono ?_
    rintro e w1 ⟨rfl, hb1⟩
    have kxn : blkAt w1 w.heap.size = some (.cells #[.slice a1 n1 c1, .slice a2 n2 c2, .slice a3 n3 c3, .int .i64 k, .float .f32 f0, .float .f32 f1, .float .f32 f2, .float .f32 f3, .float .f32 f4, .bool op, .float .f32 x1, .float .f32 x2, .float .f32 x3] 52) := (hb1.block _ (ltb (blk_alloc w (.cells #[.slice a1 n1 c1, .slice a2 n2 c2, .slice a3 n3 c3, .int .i64 k, .float .f32 f0, .float .f32 f1, .float .f32 f2, .float .f32 f3, .float .f32 f4, .bool op, .float .f32 x1, .float .f32 x2, .float .f32 x3] 52)))).trans (blk_alloc w (.cells #[.slice a1 n1 c1, .slice a2 n2 c2, .slice a3 n3 c3, .int .i64 k, .float .f32 f0, .float .f32 f1, .float .f32 f2, .float .f32 f3, .float .f32 f4, .bool op, .float .f32 x1, .float .f32 x2, .float .f32 x3] 52))
    have HB1 := Lib.hid (bUp (G0) hb1)
    have kx := kxn
    clear kxn
    have yx := ltb kx
    clear hb1
    clear G0
    have bE := HB1.out
    go_wp2
    go_ret
    exact ⟨rfl, by (repeat (first | (with_reducible refine Below.drewN ?_) | (with_reducible refine Below.drew ?_) | ((with_reducible refine Below.alloc ?_ ?_ _); rotate_left; (first | omega | (simp <;> omega))) | ((with_reducible refine Below.setCell ?_ ?_ _); rotate_left; (first | omega | (simp <;> omega))) | (with_reducible exact Below.refl _ _) | (with_reducible assumption)))⟩
  have m1 : n1 ≤ 1048576 := by omega
  have m2 : n2 ≤ 1048576 := by omega
  have m3 : n3 ≤ 1048576 := by omega
  have Q1 : Hid (∀ j, j < n1 → (rat rs1 j).n ≤ 1048576) := fun j hj => by
    have := rgSum_mono rs1 (show j + 1 ≤ n1 by omega)
    rw [rgSum] at this
    omega
  have Q2 : Hid (∀ j, j < n2 → (rat rs2 j).n ≤ 1048576) := fun j hj => by
    have := rgSum_mono rs2 (show j + 1 ≤ n2 by omega)
    rw [rgSum] at this
    omega
  have hl : ¬ (1048576 - n1 - rgSum rs1 n1 - n2 - rgSum rs2 n2 - n3 : Int) < 0 := by omega
  go_enter Tryd.func5, Tryd.ntmps5
  have G0 : Below w.heap.size w (w.alloc (.cells #[.slice a1 n1 c1, .slice a2 n2 c2, .slice a3 n3 c3, .int .i64 k, .float .f32 f0, .float .f32 f1, .float .f32 f2, .float .f32 f3, .float .f32 f4, .bool op, .float .f32 x1, .float .f32 x2, .float .f32 x3] 52)) := Below.alloc (Below.refl _ _) (Nat.le_refl _) _
  go_wp2_with fail
  refine (c_szPipe_ok a1 n1 c1 rs1 a2 n2 c2 rs2 a3 n3 c3 xs3 k f0 f1 f2 f3 f4 op x1 x2 x3 _ (RS.below (B := w.heap.size) H1.out (G0) (Nat.le_refl _)) (RS.below (B := w.heap.size) H2.out (G0) (Nat.le_refl _)) (FS.below (B := w.heap.size) H3.out (G0) (Nat.le_refl _)) (by omega)).mono ?_
  rintro e w1 ⟨rfl, hb1⟩
  have kxn : blkAt w1 w.heap.size = some (.cells #[.slice a1 n1 c1, .slice a2 n2 c2, .slice a3 n3 c3, .int .i64 k, .float .f32 f0, .float .f32 f1, .float .f32 f2, .float .f32 f3, .float .f32 f4, .bool op, .float .f32 x1, .float .f32 x2, .float .f32 x3] 52) := (hb1.block _ (ltb (blk_alloc w (.cells #[.slice a1 n1 c1, .slice a2 n2 c2, .slice a3 n3 c3, .int .i64 k, .float .f32 f0, .float .f32 f1, .float .f32 f2, .float .f32 f3, .float .f32 f4, .bool op, .float .f32 x1, .float .f32 x2, .float .f32 x3] 52)))).trans (blk_alloc w (.cells #[.slice a1 n1 c1, .slice a2 n2 c2, .slice a3 n3 c3, .int .i64 k, .float .f32 f0, .float .f32 f1, .float .f32 f2, .float .f32 f3, .float .f32 f4, .bool op, .float .f32 x1, .float .f32 x2, .float .f32 x3] 52))
  have HB1 := Lib.hid (bUp (G0) hb1)
  have kx := kxn
  clear kxn
  have yx := ltb kx
  clear hb1
  clear G0
  go_wp2_with fail
  refine (c_toPipe' a1 n1 c1 rs1 a2 n2 c2 rs2 a3 n3 c3 xs3 k f0 f1 f2 f3 f4 op x1 x2 x3 _ (RS.below (B := w.heap.size) H1.out (HB1.out) (Nat.le_refl _)) (RS.below (B := w.heap.size) H2.out (HB1.out) (Nat.le_refl _)) (FS.below (B := w.heap.size) H3.out (HB1.out) (Nat.le_refl _)) m1 Q1.out m2 Q2.out m3).mono ?_
  rintro e w2 ⟨g1s, g2s, g3s, ss1s, ss2s, rfl, hb2, v1s, v2s, v3s, c1s, c2s⟩
  have kxn : blkAt w2 w.heap.size = some (.cells #[.slice a1 n1 c1, .slice a2 n2 c2, .slice a3 n3 c3, .int .i64 k, .float .f32 f0, .float .f32 f1, .float .f32 f2, .float .f32 f3, .float .f32 f4, .bool op, .float .f32 x1, .float .f32 x2, .float .f32 x3] 52) := (hb2.block _ (ltb kx)).trans kx
  have HB2 := Lib.hid (bUp (HB1.out) hb2)
  clear kx
  have kx := kxn
  clear kxn
  clear yx
  have yx := ltb kx
  clear hb2
  have V1s := Lib.hid v1s
  clear v1s
  have V2s := Lib.hid v2s
  clear v2s
  have V3s := Lib.hid v3s
  clear v3s
  have C1s := Lib.hid c1s
  clear c1s
  have C2s := Lib.hid c2s
  clear c2s
  go_wp2_with fail
  refine (HS.out _ _ _ _ _ _ _ _ _ (TB.out w _ w.heap.size TT.out (HB2.out) (Nat.le_refl _)) V1s.out V2s.out V3s.out C1s.out C2s.out).mono ?_
  rintro e w3 ⟨rfl, hb3⟩
  have kxn : blkAt w3 w.heap.size = some (.cells #[.slice a1 n1 c1, .slice a2 n2 c2, .slice a3 n3 c3, .int .i64 k, .float .f32 f0, .float .f32 f1, .float .f32 f2, .float .f32 f3, .float .f32 f4, .bool op, .float .f32 x1, .float .f32 x2, .float .f32 x3] 52) := (hb3.block _ (ltb kx)).trans kx
  have HB3 := Lib.hid (bUp (HB2.out) hb3)
  have V1s := Lib.hid (V1s.out.below hb3 (Nat.le_refl _))
  have V2s := Lib.hid (V2s.out.below hb3 (Nat.le_refl _))
  have V3s := Lib.hid (V3s.out.below hb3 (Nat.le_refl _))
  clear kx
  have kx := kxn
  clear kxn
  clear yx
  have yx := ltb kx
  clear hb3
  clear V1s
  clear V2s
  clear V3s
  clear C1s
  clear C2s
  go_wp2_with fail
  refine (c_toPipe' a1 n1 c1 rs1 a2 n2 c2 rs2 a3 n3 c3 xs3 k f0 f1 f2 f3 f4 op x1 x2 x3 _ (RS.below (B := w.heap.size) H1.out (HB3.out) (Nat.le_refl _)) (RS.below (B := w.heap.size) H2.out (HB3.out) (Nat.le_refl _)) (FS.below (B := w.heap.size) H3.out (HB3.out) (Nat.le_refl _)) m1 Q1.out m2 Q2.out m3).mono ?_
  rintro e w4 ⟨g1x, g2x, g3x, ss1x, ss2x, rfl, hb4, v1x, v2x, v3x, c1x, c2x⟩
  have kxn : blkAt w4 w.heap.size = some (.cells #[.slice a1 n1 c1, .slice a2 n2 c2, .slice a3 n3 c3, .int .i64 k, .float .f32 f0, .float .f32 f1, .float .f32 f2, .float .f32 f3, .float .f32 f4, .bool op, .float .f32 x1, .float .f32 x2, .float .f32 x3] 52) := (hb4.block _ (ltb kx)).trans kx
  have HB4 := Lib.hid (bUp (HB3.out) hb4)
  clear kx
  have kx := kxn
  clear kxn
  clear yx
  have yx := ltb kx
  clear hb4
  have V1x := Lib.hid v1x
  clear v1x
  have V2x := Lib.hid v2x
  clear v2x
  have V3x := Lib.hid v3x
  clear v3x
  have C1x := Lib.hid c1x
  clear c1x
  have C2x := Lib.hid c2x
  clear c2x
  have G4 : Below w4.heap.size w4 (w4.alloc (.cells #[.slice (some ⟨g1x, 0, none⟩) n1 n1, .slice (some ⟨g2x, 0, none⟩) n2 n2, .slice (some ⟨g3x, 0, none⟩) n3 n3, .int .i64 k, .float .f32 f0, .float .f32 f1, .float .f32 f2, .float .f32 f3, .float .f32 f4, .bool op, .float .f32 x1, .float .f32 x2, .float .f32 x3] 57)) := Below.alloc (Below.refl _ _) (Nat.le_refl _) _
  go_wp2_with fail
  refine (HI.out _ _ _ _ _ _ _ _ _ (TB.out w _ w.heap.size TT.out (bUp (HB4.out) G4) (Nat.le_refl _)) (RS.below (B := w4.heap.size) V1x.out G4 (Nat.le_refl _)) (RS.below (B := w4.heap.size) V2x.out G4 (Nat.le_refl _)) (FS.below (B := w4.heap.size) V3x.out G4 (Nat.le_refl _)) C1x.out C2x.out).mono ?_
  rintro e w5 ⟨rfl, hb5⟩
  have kxn : blkAt w5 w.heap.size = some (.cells #[.slice a1 n1 c1, .slice a2 n2 c2, .slice a3 n3 c3, .int .i64 k, .float .f32 f0, .float .f32 f1, .float .f32 f2, .float .f32 f3, .float .f32 f4, .bool op, .float .f32 x1, .float .f32 x2, .float .f32 x3] 52) := (hb5.block _ (ltb ((blk_alloc_ne w4 (.cells #[.slice (some ⟨g1x, 0, none⟩) n1 n1, .slice (some ⟨g2x, 0, none⟩) n2 n2, .slice (some ⟨g3x, 0, none⟩) n3 n3, .int .i64 k, .float .f32 f0, .float .f32 f1, .float .f32 f2, .float .f32 f3, .float .f32 f4, .bool op, .float .f32 x1, .float .f32 x2, .float .f32 x3] 57) _ (ltb kx)).trans kx))).trans ((blk_alloc_ne w4 (.cells #[.slice (some ⟨g1x, 0, none⟩) n1 n1, .slice (some ⟨g2x, 0, none⟩) n2 n2, .slice (some ⟨g3x, 0, none⟩) n3 n3, .int .i64 k, .float .f32 f0, .float .f32 f1, .float .f32 f2, .float .f32 f3, .float .f32 f4, .bool op, .float .f32 x1, .float .f32 x2, .float .f32 x3] 57) _ (ltb kx)).trans kx)
  have kzn : blkAt w5 w4.heap.size = some (.cells #[.slice (some ⟨g1x, 0, none⟩) n1 n1, .slice (some ⟨g2x, 0, none⟩) n2 n2, .slice (some ⟨g3x, 0, none⟩) n3 n3, .int .i64 k, .float .f32 f0, .float .f32 f1, .float .f32 f2, .float .f32 f3, .float .f32 f4, .bool op, .float .f32 x1, .float .f32 x2, .float .f32 x3] 57) := (hb5.block _ (ltb (blk_alloc w4 (.cells #[.slice (some ⟨g1x, 0, none⟩) n1 n1, .slice (some ⟨g2x, 0, none⟩) n2 n2, .slice (some ⟨g3x, 0, none⟩) n3 n3, .int .i64 k, .float .f32 f0, .float .f32 f1, .float .f32 f2, .float .f32 f3, .float .f32 f4, .bool op, .float .f32 x1, .float .f32 x2, .float .f32 x3] 57)))).trans (blk_alloc w4 (.cells #[.slice (some ⟨g1x, 0, none⟩) n1 n1, .slice (some ⟨g2x, 0, none⟩) n2 n2, .slice (some ⟨g3x, 0, none⟩) n3 n3, .int .i64 k, .float .f32 f0, .float .f32 f1, .float .f32 f2, .float .f32 f3, .float .f32 f4, .bool op, .float .f32 x1, .float .f32 x2, .float .f32 x3] 57))
  have HB5 := Lib.hid (bUp (bUp (HB4.out) G4) hb5)
  have V1x := Lib.hid ((RS.below (B := w4.heap.size) V1x.out G4 (Nat.le_refl _)).below hb5 (Nat.le_refl _))
  have V2x := Lib.hid ((RS.below (B := w4.heap.size) V2x.out G4 (Nat.le_refl _)).below hb5 (Nat.le_refl _))
  have V3x := Lib.hid ((FS.below (B := w4.heap.size) V3x.out G4 (Nat.le_refl _)).below hb5 (Nat.le_refl _))
  clear kx
  have kx := kxn
  clear kxn
  clear yx
  have yx := ltb kx
  have kz := kzn
  clear kzn
  have yz := ltb kz
  clear hb5
  clear G4
  go_wp2_with fail
  refine wp_region_grow [3] [2] (by kernel_rfl) (by kernel_rfl) (by kernel_rfl) ?_
  apply Exists.intro
  iterate 2 (apply lh_o; kernel_rfl; kernel_rfl; kernel_rfl; (intro W hW; have hWc := Grow.cells hW; have hWk := bblk hW; go_simp; exact ⟨OneV.mk _, Grow.refl _⟩))
  apply lh_w (fun g : Nat × Nat × Nat => Value.agg #[.slice (some ⟨g.1, 0, none⟩) n1 n1, .slice (some ⟨g.2.1, 0, none⟩) n2 n2, .slice (some ⟨g.2.2, 0, none⟩) n3 n3, .int .i64 k, .float .f32 f0, .float .f32 f1, .float .f32 f2, .float .f32 f3, .float .f32 f4, .bool op, .float .f32 x1, .float .f32 x2, .float .f32 x3]) (fun g w' => PipeW n1 rs1 n2 rs2 n3 xs3 g w') (0, 0, 0) (fun g w w' h hg => h.grow hg) (fun i j h => by
    obtain ⟨i1, i2, i3⟩ := i; obtain ⟨j1, j2, j3⟩ := j; simp at h; simp [h])
  kernel_rfl
  kernel_rfl
  kernel_rfl
  · intro W hW
    have hWc := Grow.cells hW
    go_simp
    exact (c_toPipe' a1 n1 c1 rs1 a2 n2 c2 rs2 a3 n3 c3 xs3 k f0 f1 f2 f3 f4 op x1 x2 x3 W (RS.below (B := w.heap.size) H1.out (HB5.out.trans (Below.mono hW HB5.out.size)) (Nat.le_refl _)) (RS.below (B := w.heap.size) H2.out (HB5.out.trans (Below.mono hW HB5.out.size)) (Nat.le_refl _)) (FS.below (B := w.heap.size) H3.out (HB5.out.trans (Below.mono hW HB5.out.size)) (Nat.le_refl _)) m1 Q1.out m2 Q2.out m3).mono fun e w' ⟨t1, t2, t3, ss1, ss2, he, hb, r1, r2, r3, r4, r5⟩ => ⟨(t1, t2, t3), he, ⟨ss1, ss2, r1, r2, r3, r4, r5⟩, hb⟩
  exact anti
  intro g
  (apply lh_h; kernel_rfl; kernel_rfl; kernel_rfl; (intro W hW; obtain ⟨hG, tt1, tt2, k1, k2, k3, k4, k5⟩ := hW; have hWc := Grow.cells hG; go_simp; exact gV (c_eqPipe' _ _ _ _ _ _ _ _ _ _ _ _ _ _ _ _ _ _ _ _ _ _ _ _ _ _ _ _ _ _ W (RS.below (B := w5.heap.size) V1x.out hG (Nat.le_refl _)) (RS.below (B := w5.heap.size) V2x.out hG (Nat.le_refl _)) (FS.below (B := w5.heap.size) V3x.out hG (Nat.le_refl _)) k1 k2 k3 (sameC.both C1x.out k4) (sameC.both C2x.out k5))))
  (apply lh_o; kernel_rfl; kernel_rfl; kernel_rfl; (intro W hW; have hWc := Grow.cells hW; go_simp; exact ⟨OneV.mk _, Grow.refl _⟩))
  refine lh_nil ?_
  intro w6 hW6
  simp only [Act.put, List.setIfInBounds_toArray, List.set_cons_succ, List.set_cons_zero]
  have hb6 : Below w5.heap.size w5 w6 := hW6.1
  clear hW6
  have kxn : blkAt w6 w.heap.size = some (.cells #[.slice a1 n1 c1, .slice a2 n2 c2, .slice a3 n3 c3, .int .i64 k, .float .f32 f0, .float .f32 f1, .float .f32 f2, .float .f32 f3, .float .f32 f4, .bool op, .float .f32 x1, .float .f32 x2, .float .f32 x3] 52) := (hb6.block _ (ltb kx)).trans kx
  have kzn : blkAt w6 w4.heap.size = some (.cells #[.slice (some ⟨g1x, 0, none⟩) n1 n1, .slice (some ⟨g2x, 0, none⟩) n2 n2, .slice (some ⟨g3x, 0, none⟩) n3 n3, .int .i64 k, .float .f32 f0, .float .f32 f1, .float .f32 f2, .float .f32 f3, .float .f32 f4, .bool op, .float .f32 x1, .float .f32 x2, .float .f32 x3] 57) := (hb6.block _ (ltb kz)).trans kz
  have HB6 := Lib.hid (bUp (HB5.out) hb6)
  have V1x := Lib.hid (V1x.out.below hb6 (Nat.le_refl _))
  have V2x := Lib.hid (V2x.out.below hb6 (Nat.le_refl _))
  have V3x := Lib.hid (V3x.out.below hb6 (Nat.le_refl _))
  clear kx
  have kx := kxn
  clear kxn
  clear yx
  have yx := ltb kx
  clear kz
  have kz := kzn
  clear kzn
  clear yz
  have yz := ltb kz
  clear hb6
  have bE := HB6.out
  go_wp2
  go_ret
  exact ⟨rfl, by (repeat (first | (with_reducible refine Below.drewN ?_) | (with_reducible refine Below.drew ?_) | ((with_reducible refine Below.alloc ?_ ?_ _); rotate_left; (first | omega | (simp <;> omega))) | ((with_reducible refine Below.setCell ?_ ?_ _); rotate_left; (first | omega | (simp <;> omega))) | (with_reducible exact Below.refl _ _) | (with_reducible assumption)))⟩


end Go.Proofs.YtbdanadmabemdaaDoor
