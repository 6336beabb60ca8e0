
/-
New rooms: equality but for the not-a-number.
-/
import Derived.Test.YtfhegjjgfaeinaaYq
import Derived.Test.YtfhegjjgfaeinaaNa
namespace Go.Proofs.Ytfhegjjgfaeinaa
open Go Go.RowKit Fl
/-- filters that hold the same but for the not-a-number -/
def FtA (d f : Ft) : Prop := f.k = d.k ∧ (up f.f0 = up d.f0 ∧ up f.f1 = up d.f1 ∧ up f.f2 = up d.f2 ∧ up f.f3 = up d.f3 ∧ up f.f4 = up d.f4)
set_option maxRecDepth 100000 in
set_option maxHeartbeats 1600000 in
theorem c_eqFilterA4a (d0 : Ft) (d1 : Ft) (d2 : Ft) (d3 : Ft) (f0 : Ft) (f1 : Ft) (f2 : Ft) (f3 : Ft) (w : World) (u0 : FtA d0 f0) (u1 : FtA d1 f1) (u2 : FtA d2 f2) (u3 : FtA d3 f3) :
    Calls Try.prog 76 #[.agg #[.int .i64 d0.k, .float .f32 d0.f0, .float .f32 d0.f1, .float .f32 d0.f2, .float .f32 d0.f3, .float .f32 d0.f4, .int .i64 d1.k, .float .f32 d1.f0, .float .f32 d1.f1, .float .f32 d1.f2, .float .f32 d1.f3, .float .f32 d1.f4, .int .i64 d2.k, .float .f32 d2.f0, .float .f32 d2.f1, .float .f32 d2.f2, .float .f32 d2.f3, .float .f32 d2.f4, .int .i64 d3.k, .float .f32 d3.f0, .float .f32 d3.f1, .float .f32 d3.f2, .float .f32 d3.f3, .float .f32 d3.f4], .agg #[.int .i64 f0.k, .float .f32 f0.f0, .float .f32 f0.f1, .float .f32 f0.f2, .float .f32 f0.f3, .float .f32 f0.f4, .int .i64 f1.k, .float .f32 f1.f0, .float .f32 f1.f1, .float .f32 f1.f2, .float .f32 f1.f3, .float .f32 f1.f4, .int .i64 f2.k, .float .f32 f2.f0, .float .f32 f2.f1, .float .f32 f2.f2, .float .f32 f2.f3, .float .f32 f2.f4, .int .i64 f3.k, .float .f32 f3.f0, .float .f32 f3.f1, .float .f32 f3.f2, .float .f32 f3.f3, .float .f32 f3.f4]] w (RetV (.bool true) w) := by
  rw [u0.1, u1.1, u2.1, u3.1]
  have U0 := Lib.hid u0
  clear u0
  have U1 := Lib.hid u1
  clear u1
  have U2 := Lib.hid u2
  clear u2
  have U3 := Lib.hid u3
  clear u3
  go_enter Try.func76, Try.ntmps76
  go_wp2
  refine wp_named ?_
  intro w0 hW0
  have K := two_alloc w (.cells #[.int .i64 d0.k, .float .f32 d0.f0, .float .f32 d0.f1, .float .f32 d0.f2, .float .f32 d0.f3, .float .f32 d0.f4, .int .i64 d1.k, .float .f32 d1.f0, .float .f32 d1.f1, .float .f32 d1.f2, .float .f32 d1.f3, .float .f32 d1.f4, .int .i64 d2.k, .float .f32 d2.f0, .float .f32 d2.f1, .float .f32 d2.f2, .float .f32 d2.f3, .float .f32 d2.f4, .int .i64 d3.k, .float .f32 d3.f0, .float .f32 d3.f1, .float .f32 d3.f2, .float .f32 d3.f3, .float .f32 d3.f4] 48) (.cells #[.int .i64 d0.k, .float .f32 f0.f0, .float .f32 f0.f1, .float .f32 f0.f2, .float .f32 f0.f3, .float .f32 f0.f4, .int .i64 d1.k, .float .f32 f1.f0, .float .f32 f1.f1, .float .f32 f1.f2, .float .f32 f1.f3, .float .f32 f1.f4, .int .i64 d2.k, .float .f32 f2.f0, .float .f32 f2.f1, .float .f32 f2.f2, .float .f32 f2.f3, .float .f32 f2.f4, .int .i64 d3.k, .float .f32 f3.f0, .float .f32 f3.f1, .float .f32 f3.f2, .float .f32 f3.f3, .float .f32 f3.f4] 48)
  rw [← hW0] at K
  obtain ⟨kA, kB, zW, bW⟩ := K
  clear hW0
  have HB := Lib.hid bW
  clear bW
  refine wp_loop_rounds 5 ?_
  rw [rounds_succ]
  have yA : w.heap.size < w0.heap.size := by omega
  have yB : w.heap.size + 1 < w0.heap.size := by omega
  have a0 : w0.cell? ⟨w.heap.size, 0, none⟩ = some (.int .i64 d0.k) := blk_cell kA rfl
  have b0_ : w0.cell? ⟨w.heap.size + 1, 0, none⟩ = some (.int .i64 d0.k) := blk_cell kB rfl
  have a1 : w0.cell? ⟨w.heap.size, 1, none⟩ = some (.float .f32 d0.f0) := blk_cell kA rfl
  have b1_ : w0.cell? ⟨w.heap.size + 1, 1, none⟩ = some (.float .f32 f0.f0) := blk_cell kB rfl
  have a2 : w0.cell? ⟨w.heap.size, 2, none⟩ = some (.float .f32 d0.f1) := blk_cell kA rfl
  have b2_ : w0.cell? ⟨w.heap.size + 1, 2, none⟩ = some (.float .f32 f0.f1) := blk_cell kB rfl
  have a3 : w0.cell? ⟨w.heap.size, 3, none⟩ = some (.float .f32 d0.f2) := blk_cell kA rfl
  have b3_ : w0.cell? ⟨w.heap.size + 1, 3, none⟩ = some (.float .f32 f0.f2) := blk_cell kB rfl
  have a4 : w0.cell? ⟨w.heap.size, 4, none⟩ = some (.float .f32 d0.f3) := blk_cell kA rfl
  have b4_ : w0.cell? ⟨w.heap.size + 1, 4, none⟩ = some (.float .f32 f0.f3) := blk_cell kB rfl
  have a5 : w0.cell? ⟨w.heap.size, 5, none⟩ = some (.float .f32 d0.f4) := blk_cell kA rfl
  have b5_ : w0.cell? ⟨w.heap.size + 1, 5, none⟩ = some (.float .f32 f0.f4) := blk_cell kB rfl
  go_wp2
  refine wp_region_grow [] [] (by kernel_rfl) (by kernel_rfl) (by kernel_rfl) ?_
  apply Exists.intro
  iterate 6 (apply lh_o; kernel_rfl; kernel_rfl; kernel_rfl; (intro W hW; have hWc := Grow.cells hW; go_simp; exact ⟨OneV.mk _, Grow.refl _⟩))
  (apply lh_o; kernel_rfl; kernel_rfl; kernel_rfl; (intro W hW; go_simp; first | exact gB (c_eqFilter _ _ _ _ _ _ _ _ _ _ _ _ U0.out.2) | exact gV (c_eqFilter _ _ _ _ _ _ _ _ _ _ _ _ U0.out.2)))
  (apply lh_o; kernel_rfl; kernel_rfl; kernel_rfl; (intro W hW; have hWc := Grow.cells hW; go_simp; exact ⟨OneV.mk _, Grow.refl _⟩))
  refine lh_nil ?_
  intro w1 hW
  simp only [Act.put, List.setIfInBounds_toArray, List.set_cons_succ, List.set_cons_zero]
  clear a0 b0_ a1 b1_ a2 b2_ a3 b3_ a4 b4_ a5 b5_
  have kA1 := (Below.block hW _ yA).trans kA
  have kB1 := (Below.block hW _ yB).trans kB
  have HB1 := Lib.hid (HB.out.trans (Below.mono hW HB.out.size))
  have zW1 : w.heap.size + 2 ≤ w1.heap.size := Nat.le_trans zW (Below.size hW)
  clear kA kB HB zW yA yB hW
  have kA := kA1
  have kB := kB1
  have HB := HB1
  have zW := zW1
  clear kA1 kB1 HB1 zW1
  go_wp2
  rw [rounds_succ]
  have yA : w.heap.size < w1.heap.size := by omega
  have yB : w.heap.size + 1 < w1.heap.size := by omega
  have a6 : w1.cell? ⟨w.heap.size, 6, none⟩ = some (.int .i64 d1.k) := blk_cell kA rfl
  have b6_ : w1.cell? ⟨w.heap.size + 1, 6, none⟩ = some (.int .i64 d1.k) := blk_cell kB rfl
  have a7 : w1.cell? ⟨w.heap.size, 7, none⟩ = some (.float .f32 d1.f0) := blk_cell kA rfl
  have b7_ : w1.cell? ⟨w.heap.size + 1, 7, none⟩ = some (.float .f32 f1.f0) := blk_cell kB rfl
  have a8 : w1.cell? ⟨w.heap.size, 8, none⟩ = some (.float .f32 d1.f1) := blk_cell kA rfl
  have b8_ : w1.cell? ⟨w.heap.size + 1, 8, none⟩ = some (.float .f32 f1.f1) := blk_cell kB rfl
  have a9 : w1.cell? ⟨w.heap.size, 9, none⟩ = some (.float .f32 d1.f2) := blk_cell kA rfl
  have b9_ : w1.cell? ⟨w.heap.size + 1, 9, none⟩ = some (.float .f32 f1.f2) := blk_cell kB rfl
  have a10 : w1.cell? ⟨w.heap.size, 10, none⟩ = some (.float .f32 d1.f3) := blk_cell kA rfl
  have b10_ : w1.cell? ⟨w.heap.size + 1, 10, none⟩ = some (.float .f32 f1.f3) := blk_cell kB rfl
  have a11 : w1.cell? ⟨w.heap.size, 11, none⟩ = some (.float .f32 d1.f4) := blk_cell kA rfl
  have b11_ : w1.cell? ⟨w.heap.size + 1, 11, none⟩ = some (.float .f32 f1.f4) := blk_cell kB rfl
  go_wp2
  refine wp_region_grow [] [] (by kernel_rfl) (by kernel_rfl) (by kernel_rfl) ?_
  apply Exists.intro
  iterate 6 (apply lh_o; kernel_rfl; kernel_rfl; kernel_rfl; (intro W hW; have hWc := Grow.cells hW; go_simp; exact ⟨OneV.mk _, Grow.refl _⟩))
  (apply lh_o; kernel_rfl; kernel_rfl; kernel_rfl; (intro W hW; go_simp; first | exact gB (c_eqFilter _ _ _ _ _ _ _ _ _ _ _ _ U1.out.2) | exact gV (c_eqFilter _ _ _ _ _ _ _ _ _ _ _ _ U1.out.2)))
  (apply lh_o; kernel_rfl; kernel_rfl; kernel_rfl; (intro W hW; have hWc := Grow.cells hW; go_simp; exact ⟨OneV.mk _, Grow.refl _⟩))
  refine lh_nil ?_
  intro w2 hW
  simp only [Act.put, List.setIfInBounds_toArray, List.set_cons_succ, List.set_cons_zero]
  clear a6 b6_ a7 b7_ a8 b8_ a9 b9_ a10 b10_ a11 b11_
  have kA1 := (Below.block hW _ yA).trans kA
  have kB1 := (Below.block hW _ yB).trans kB
  have HB1 := Lib.hid (HB.out.trans (Below.mono hW HB.out.size))
  have zW1 : w.heap.size + 2 ≤ w2.heap.size := Nat.le_trans zW (Below.size hW)
  clear kA kB HB zW yA yB hW
  have kA := kA1
  have kB := kB1
  have HB := HB1
  have zW := zW1
  clear kA1 kB1 HB1 zW1
  go_wp2
  rw [rounds_succ]
  have yA : w.heap.size < w2.heap.size := by omega
  have yB : w.heap.size + 1 < w2.heap.size := by omega
  have a12 : w2.cell? ⟨w.heap.size, 12, none⟩ = some (.int .i64 d2.k) := blk_cell kA rfl
  have b12_ : w2.cell? ⟨w.heap.size + 1, 12, none⟩ = some (.int .i64 d2.k) := blk_cell kB rfl
  have a13 : w2.cell? ⟨w.heap.size, 13, none⟩ = some (.float .f32 d2.f0) := blk_cell kA rfl
  have b13_ : w2.cell? ⟨w.heap.size + 1, 13, none⟩ = some (.float .f32 f2.f0) := blk_cell kB rfl
  have a14 : w2.cell? ⟨w.heap.size, 14, none⟩ = some (.float .f32 d2.f1) := blk_cell kA rfl
  have b14_ : w2.cell? ⟨w.heap.size + 1, 14, none⟩ = some (.float .f32 f2.f1) := blk_cell kB rfl
  have a15 : w2.cell? ⟨w.heap.size, 15, none⟩ = some (.float .f32 d2.f2) := blk_cell kA rfl
  have b15_ : w2.cell? ⟨w.heap.size + 1, 15, none⟩ = some (.float .f32 f2.f2) := blk_cell kB rfl
  have a16 : w2.cell? ⟨w.heap.size, 16, none⟩ = some (.float .f32 d2.f3) := blk_cell kA rfl
  have b16_ : w2.cell? ⟨w.heap.size + 1, 16, none⟩ = some (.float .f32 f2.f3) := blk_cell kB rfl
  have a17 : w2.cell? ⟨w.heap.size, 17, none⟩ = some (.float .f32 d2.f4) := blk_cell kA rfl
  have b17_ : w2.cell? ⟨w.heap.size + 1, 17, none⟩ = some (.float .f32 f2.f4) := blk_cell kB rfl
  go_wp2
  refine wp_region_grow [] [] (by kernel_rfl) (by kernel_rfl) (by kernel_rfl) ?_
  apply Exists.intro
  iterate 6 (apply lh_o; kernel_rfl; kernel_rfl; kernel_rfl; (intro W hW; have hWc := Grow.cells hW; go_simp; exact ⟨OneV.mk _, Grow.refl _⟩))
  (apply lh_o; kernel_rfl; kernel_rfl; kernel_rfl; (intro W hW; go_simp; first | exact gB (c_eqFilter _ _ _ _ _ _ _ _ _ _ _ _ U2.out.2) | exact gV (c_eqFilter _ _ _ _ _ _ _ _ _ _ _ _ U2.out.2)))
  (apply lh_o; kernel_rfl; kernel_rfl; kernel_rfl; (intro W hW; have hWc := Grow.cells hW; go_simp; exact ⟨OneV.mk _, Grow.refl _⟩))
  refine lh_nil ?_
  intro w3 hW
  simp only [Act.put, List.setIfInBounds_toArray, List.set_cons_succ, List.set_cons_zero]
  clear a12 b12_ a13 b13_ a14 b14_ a15 b15_ a16 b16_ a17 b17_
  have kA1 := (Below.block hW _ yA).trans kA
  have kB1 := (Below.block hW _ yB).trans kB
  have HB1 := Lib.hid (HB.out.trans (Below.mono hW HB.out.size))
  have zW1 : w.heap.size + 2 ≤ w3.heap.size := Nat.le_trans zW (Below.size hW)
  clear kA kB HB zW yA yB hW
  have kA := kA1
  have kB := kB1
  have HB := HB1
  have zW := zW1
  clear kA1 kB1 HB1 zW1
  go_wp2
  rw [rounds_succ]
  have yA : w.heap.size < w3.heap.size := by omega
  have yB : w.heap.size + 1 < w3.heap.size := by omega
  have a18 : w3.cell? ⟨w.heap.size, 18, none⟩ = some (.int .i64 d3.k) := blk_cell kA rfl
  have b18_ : w3.cell? ⟨w.heap.size + 1, 18, none⟩ = some (.int .i64 d3.k) := blk_cell kB rfl
  have a19 : w3.cell? ⟨w.heap.size, 19, none⟩ = some (.float .f32 d3.f0) := blk_cell kA rfl
  have b19_ : w3.cell? ⟨w.heap.size + 1, 19, none⟩ = some (.float .f32 f3.f0) := blk_cell kB rfl
  have a20 : w3.cell? ⟨w.heap.size, 20, none⟩ = some (.float .f32 d3.f1) := blk_cell kA rfl
  have b20_ : w3.cell? ⟨w.heap.size + 1, 20, none⟩ = some (.float .f32 f3.f1) := blk_cell kB rfl
  have a21 : w3.cell? ⟨w.heap.size, 21, none⟩ = some (.float .f32 d3.f2) := blk_cell kA rfl
  have b21_ : w3.cell? ⟨w.heap.size + 1, 21, none⟩ = some (.float .f32 f3.f2) := blk_cell kB rfl
  have a22 : w3.cell? ⟨w.heap.size, 22, none⟩ = some (.float .f32 d3.f3) := blk_cell kA rfl
  have b22_ : w3.cell? ⟨w.heap.size + 1, 22, none⟩ = some (.float .f32 f3.f3) := blk_cell kB rfl
  have a23 : w3.cell? ⟨w.heap.size, 23, none⟩ = some (.float .f32 d3.f4) := blk_cell kA rfl
  have b23_ : w3.cell? ⟨w.heap.size + 1, 23, none⟩ = some (.float .f32 f3.f4) := blk_cell kB rfl
  go_wp2
  refine wp_region_grow [] [] (by kernel_rfl) (by kernel_rfl) (by kernel_rfl) ?_
  apply Exists.intro
  iterate 6 (apply lh_o; kernel_rfl; kernel_rfl; kernel_rfl; (intro W hW; have hWc := Grow.cells hW; go_simp; exact ⟨OneV.mk _, Grow.refl _⟩))
  (apply lh_o; kernel_rfl; kernel_rfl; kernel_rfl; (intro W hW; go_simp; first | exact gB (c_eqFilter _ _ _ _ _ _ _ _ _ _ _ _ U3.out.2) | exact gV (c_eqFilter _ _ _ _ _ _ _ _ _ _ _ _ U3.out.2)))
  (apply lh_o; kernel_rfl; kernel_rfl; kernel_rfl; (intro W hW; have hWc := Grow.cells hW; go_simp; exact ⟨OneV.mk _, Grow.refl _⟩))
  refine lh_nil ?_
  intro w4 hW
  simp only [Act.put, List.setIfInBounds_toArray, List.set_cons_succ, List.set_cons_zero]
  clear a18 b18_ a19 b19_ a20 b20_ a21 b21_ a22 b22_ a23 b23_
  have kA1 := (Below.block hW _ yA).trans kA
  have kB1 := (Below.block hW _ yB).trans kB
  have HB1 := Lib.hid (HB.out.trans (Below.mono hW HB.out.size))
  have zW1 : w.heap.size + 2 ≤ w4.heap.size := Nat.le_trans zW (Below.size hW)
  clear kA kB HB zW yA yB hW
  have kA := kA1
  have kB := kB1
  have HB := HB1
  have zW := zW1
  clear kA1 kB1 HB1 zW1
  go_wp2
  rw [rounds_succ]
  go_wp2
  go_ret
  exact ⟨rfl, HB.out⟩
/-- a room in other memory with other numbers -/
def Rv.al (r : Rv) (p : Nat → Option Addr × Nat) (f0 f1 f2 f3 : Ft) (x0 x1 x2 x3 : Nat) : Rv := { r.re p with d0 := f0, d1 := f1, d2 := f2, d3 := f3, h0 := x0, h1 := x1, h2 := x2, h3 := x3 }
@[go_sem] theorem Rv.al_damps (r : Rv) (p : Nat → Option Addr × Nat) (f0 f1 f2 f3 : Ft) (x0 x1 x2 x3 : Nat) : (r.al p f0 f1 f2 f3 x0 x1 x2 x3).cells.extract 17 41 = #[.int .i64 f0.k, .float .f32 f0.f0, .float .f32 f0.f1, .float .f32 f0.f2, .float .f32 f0.f3, .float .f32 f0.f4, .int .i64 f1.k, .float .f32 f1.f0, .float .f32 f1.f1, .float .f32 f1.f2, .float .f32 f1.f3, .float .f32 f1.f4, .int .i64 f2.k, .float .f32 f2.f0, .float .f32 f2.f1, .float .f32 f2.f2, .float .f32 f2.f3, .float .f32 f2.f4, .int .i64 f3.k, .float .f32 f3.f0, .float .f32 f3.f1, .float .f32 f3.f2, .float .f32 f3.f3, .float .f32 f3.f4] := by kernel_rfl
theorem Rv.of_al {r s : Rv} {f0 f1 f2 f3 : Ft} {x0 x1 x2 x3 : Nat} (h : s.strip = { r.strip with d0 := f0, d1 := f1, d2 := f2, d3 := f3, h0 := x0, h1 := x1, h2 := x2, h3 := x3 }) : ∃ p, s = r.al p f0 f1 f2 f3 x0 x1 x2 x3 := by
  obtain ⟨p, hp⟩ := Rv.of_strip (r := { r with d0 := f0, d1 := f1, d2 := f2, d3 := f3, h0 := x0, h1 := x1, h2 := x2, h3 := x3 }) (s := s) h
  exact ⟨p, hp⟩
set_option maxRecDepth 100000 in
set_option maxHeartbeats 1600000 in
theorem c_eqRoomA (r : Rv) (p : Nat → Option Addr × Nat) (f0 f1 f2 f3 : Ft) (x0 x1 x2 x3 : Nat) (w : World) (h : RvM w r) (k : RvM w (r.al p f0 f1 f2 f3 x0 x1 x2 x3)) (u0 : FtA r.d0 f0) (u1 : FtA r.d1 f1) (u2 : FtA r.d2 f2) (u3 : FtA r.d3 f3) (v0 : up x0 = up r.h0) (v1 : up x1 = up r.h1) (v2 : up x2 = up r.h2) (v3 : up x3 = up r.h3) :
    Calls Try.prog 21 #[.agg r.cells, .agg (r.al p f0 f1 f2 f3 x0 x1 x2 x3).cells] w (RetV (.bool true) w) := by
  have H := Lib.hid h
  have J := Lib.hid k
  have U0 := Lib.hid u0
  have V0 := Lib.hid v0
  clear u0 v0
  have U1 := Lib.hid u1
  have V1 := Lib.hid v1
  clear u1 v1
  have U2 := Lib.hid u2
  have V2 := Lib.hid v2
  clear u2 v2
  have U3 := Lib.hid u3
  have V3 := Lib.hid v3
  clear u3 v3
  clear h k
  go_enter Try.func21, Try.ntmps21
  go_upto_region 1 with fail
  refine wp_named ?_
  intro w0 hW0
  have K := two_alloc w (.cells r.cells 51) (.cells (r.al p f0 f1 f2 f3 x0 x1 x2 x3).cells 51)
  rw [← hW0] at K
  obtain ⟨kA, kB, zW, bW⟩ := K
  clear hW0
  have HB := Lib.hid bW
  clear bW
  have a0 : w0.cell? ⟨w.heap.size, 0, none⟩ = some (.slice r.e.a r.e.n r.e.c) := blk_cell kA rfl
  have b0_ : w0.cell? ⟨w.heap.size + 1, 0, none⟩ = some (.slice (p 0).1 r.e.n (p 0).2) := blk_cell kB rfl
  have a1 : w0.cell? ⟨w.heap.size, 1, none⟩ = some (.int .i64 r.e.i) := blk_cell kA rfl
  have b1_ : w0.cell? ⟨w.heap.size + 1, 1, none⟩ = some (.int .i64 r.e.i) := blk_cell kB rfl
  go_wp2_with fail
  refine (c_eqRing' _ _ _ _ _ _ _ _ _ (FS.below (B := w.heap.size) H.out.q0 HB.out (Nat.le_refl _)) (FS.below (B := w.heap.size) J.out.q0 HB.out (Nat.le_refl _)) (Alk.refl _)).mono ?_
  rintro e w1 ⟨rfl, hb⟩
  clear a0 b0_ a1 b1_
  have kA1 := (hb.block _ (Array.getElem?_eq_some_iff.1 kA).1).trans kA
  have kB1 := (hb.block _ (Array.getElem?_eq_some_iff.1 kB).1).trans kB
  have HB1 := Lib.hid (HB.out.trans (hb.mono HB.out.size))
  clear kA kB HB hb
  have kA := kA1
  have kB := kB1
  have HB := HB1
  clear kA1 kB1 HB1
  have a2 : w1.cell? ⟨w.heap.size, 2, none⟩ = some (.slice r.ta r.tn r.tc) := blk_cell kA rfl
  have b2_ : w1.cell? ⟨w.heap.size + 1, 2, none⟩ = some (.slice (p 7).1 r.tn (p 7).2) := blk_cell kB rfl
  go_wp2_with fail
  refine (c_eqTapS _ _ _ _ _ r.ts _ (TS.below (B := w.heap.size) H.out.t HB.out (Nat.le_refl _)) (TS.below (B := w.heap.size) J.out.t HB.out (Nat.le_refl _))).mono ?_
  rintro e w2 ⟨rfl, hb⟩
  clear a2 b2_
  have kA1 := (hb.block _ (Array.getElem?_eq_some_iff.1 kA).1).trans kA
  have kB1 := (hb.block _ (Array.getElem?_eq_some_iff.1 kB).1).trans kB
  have HB1 := Lib.hid (HB.out.trans (hb.mono HB.out.size))
  clear kA kB HB hb
  have kA := kA1
  have kB := kB1
  have HB := HB1
  clear kA1 kB1 HB1
  have a3 : w2.cell? ⟨w.heap.size, 3, none⟩ = some (.slice r.c0.a r.c0.n r.c0.c) := blk_cell kA rfl
  have b3_ : w2.cell? ⟨w.heap.size + 1, 3, none⟩ = some (.slice (p 1).1 r.c0.n (p 1).2) := blk_cell kB rfl
  have a4 : w2.cell? ⟨w.heap.size, 4, none⟩ = some (.int .i64 r.c0.i) := blk_cell kA rfl
  have b4_ : w2.cell? ⟨w.heap.size + 1, 4, none⟩ = some (.int .i64 r.c0.i) := blk_cell kB rfl
  have a5 : w2.cell? ⟨w.heap.size, 5, none⟩ = some (.float .f32 r.g0) := blk_cell kA rfl
  have b5_ : w2.cell? ⟨w.heap.size + 1, 5, none⟩ = some (.float .f32 r.g0) := blk_cell kB rfl
  have a6 : w2.cell? ⟨w.heap.size, 6, none⟩ = some (.slice r.c1.a r.c1.n r.c1.c) := blk_cell kA rfl
  have b6_ : w2.cell? ⟨w.heap.size + 1, 6, none⟩ = some (.slice (p 2).1 r.c1.n (p 2).2) := blk_cell kB rfl
  have a7 : w2.cell? ⟨w.heap.size, 7, none⟩ = some (.int .i64 r.c1.i) := blk_cell kA rfl
  have b7_ : w2.cell? ⟨w.heap.size + 1, 7, none⟩ = some (.int .i64 r.c1.i) := blk_cell kB rfl
  have a8 : w2.cell? ⟨w.heap.size, 8, none⟩ = some (.float .f32 r.g1) := blk_cell kA rfl
  have b8_ : w2.cell? ⟨w.heap.size + 1, 8, none⟩ = some (.float .f32 r.g1) := blk_cell kB rfl
  go_wp2_with fail
  refine (c_eqCombA2 r.c0 r.c1 r.g0 r.g1 (p 1).1 (p 1).2 (p 2).1 (p 2).2 _ (FS.below (B := w.heap.size) H.out.q1 HB.out (Nat.le_refl _)) (FS.below (B := w.heap.size) J.out.q1 HB.out (Nat.le_refl _)) (FS.below (B := w.heap.size) H.out.q2 HB.out (Nat.le_refl _)) (FS.below (B := w.heap.size) J.out.q2 HB.out (Nat.le_refl _))).mono ?_
  rintro e w3 ⟨rfl, hb⟩
  clear a3 b3_ a4 b4_ a5 b5_ a6 b6_ a7 b7_ a8 b8_
  have kA1 := (hb.block _ (Array.getElem?_eq_some_iff.1 kA).1).trans kA
  have kB1 := (hb.block _ (Array.getElem?_eq_some_iff.1 kB).1).trans kB
  have HB1 := Lib.hid (HB.out.trans (hb.mono HB.out.size))
  clear kA kB HB hb
  have kA := kA1
  have kB := kB1
  have HB := HB1
  clear kA1 kB1 HB1
  have a9 : w3.cell? ⟨w.heap.size, 9, none⟩ = some (.slice r.l0.a r.l0.n r.l0.c) := blk_cell kA rfl
  have b9_ : w3.cell? ⟨w.heap.size + 1, 9, none⟩ = some (.slice (p 3).1 r.l0.n (p 3).2) := blk_cell kB rfl
  have a10 : w3.cell? ⟨w.heap.size, 10, none⟩ = some (.int .i64 r.l0.i) := blk_cell kA rfl
  have b10_ : w3.cell? ⟨w.heap.size + 1, 10, none⟩ = some (.int .i64 r.l0.i) := blk_cell kB rfl
  have a11 : w3.cell? ⟨w.heap.size, 11, none⟩ = some (.slice r.l1.a r.l1.n r.l1.c) := blk_cell kA rfl
  have b11_ : w3.cell? ⟨w.heap.size + 1, 11, none⟩ = some (.slice (p 4).1 r.l1.n (p 4).2) := blk_cell kB rfl
  have a12 : w3.cell? ⟨w.heap.size, 12, none⟩ = some (.int .i64 r.l1.i) := blk_cell kA rfl
  have b12_ : w3.cell? ⟨w.heap.size + 1, 12, none⟩ = some (.int .i64 r.l1.i) := blk_cell kB rfl
  have a13 : w3.cell? ⟨w.heap.size, 13, none⟩ = some (.slice r.l2.a r.l2.n r.l2.c) := blk_cell kA rfl
  have b13_ : w3.cell? ⟨w.heap.size + 1, 13, none⟩ = some (.slice (p 5).1 r.l2.n (p 5).2) := blk_cell kB rfl
  have a14 : w3.cell? ⟨w.heap.size, 14, none⟩ = some (.int .i64 r.l2.i) := blk_cell kA rfl
  have b14_ : w3.cell? ⟨w.heap.size + 1, 14, none⟩ = some (.int .i64 r.l2.i) := blk_cell kB rfl
  have a15 : w3.cell? ⟨w.heap.size, 15, none⟩ = some (.slice r.l3.a r.l3.n r.l3.c) := blk_cell kA rfl
  have b15_ : w3.cell? ⟨w.heap.size + 1, 15, none⟩ = some (.slice (p 6).1 r.l3.n (p 6).2) := blk_cell kB rfl
  have a16 : w3.cell? ⟨w.heap.size, 16, none⟩ = some (.int .i64 r.l3.i) := blk_cell kA rfl
  have b16_ : w3.cell? ⟨w.heap.size + 1, 16, none⟩ = some (.int .i64 r.l3.i) := blk_cell kB rfl
  go_wp2_with fail
  refine (c_eqRingA4 r.l0 r.l1 r.l2 r.l3 (p 3).1 (p 3).2 (p 4).1 (p 4).2 (p 5).1 (p 5).2 (p 6).1 (p 6).2 _ (FS.below (B := w.heap.size) H.out.q3 HB.out (Nat.le_refl _)) (FS.below (B := w.heap.size) J.out.q3 HB.out (Nat.le_refl _)) (FS.below (B := w.heap.size) H.out.q4 HB.out (Nat.le_refl _)) (FS.below (B := w.heap.size) J.out.q4 HB.out (Nat.le_refl _)) (FS.below (B := w.heap.size) H.out.q5 HB.out (Nat.le_refl _)) (FS.below (B := w.heap.size) J.out.q5 HB.out (Nat.le_refl _)) (FS.below (B := w.heap.size) H.out.q6 HB.out (Nat.le_refl _)) (FS.below (B := w.heap.size) J.out.q6 HB.out (Nat.le_refl _))).mono ?_
  rintro e w4 ⟨rfl, hb⟩
  clear a9 b9_ a10 b10_ a11 b11_ a12 b12_ a13 b13_ a14 b14_ a15 b15_ a16 b16_
  have kA1 := (hb.block _ (Array.getElem?_eq_some_iff.1 kA).1).trans kA
  have kB1 := (hb.block _ (Array.getElem?_eq_some_iff.1 kB).1).trans kB
  have HB1 := Lib.hid (HB.out.trans (hb.mono HB.out.size))
  clear kA kB HB hb
  have kA := kA1
  have kB := kB1
  have HB := HB1
  clear kA1 kB1 HB1
  have kbA : blkAt w4 (w.heap.size) = some (.cells r.cells 51) := kA
  have kbB : blkAt w4 (w.heap.size + 1) = some (.cells (r.al p f0 f1 f2 f3 x0 x1 x2 x3).cells 51) := kB
  go_wp2_with fail
  refine (c_eqFilterA4a r.d0 r.d1 r.d2 r.d3 f0 f1 f2 f3 _ U0.out U1.out U2.out U3.out).mono ?_
  rintro e w5 ⟨rfl, hb⟩
  clear kbA kbB
  have kA1 := (hb.block _ (Array.getElem?_eq_some_iff.1 kA).1).trans kA
  have kB1 := (hb.block _ (Array.getElem?_eq_some_iff.1 kB).1).trans kB
  have HB1 := Lib.hid (HB.out.trans (hb.mono HB.out.size))
  clear kA kB HB hb
  have kA := kA1
  have kB := kB1
  have HB := HB1
  clear kA1 kB1 HB1
  have a41 : w5.cell? ⟨w.heap.size, 41, none⟩ = some (.float .f32 r.h0) := blk_cell kA rfl
  have b41_ : w5.cell? ⟨w.heap.size + 1, 41, none⟩ = some (.float .f32 x0) := blk_cell kB rfl
  have a42 : w5.cell? ⟨w.heap.size, 42, none⟩ = some (.float .f32 r.h1) := blk_cell kA rfl
  have b42_ : w5.cell? ⟨w.heap.size + 1, 42, none⟩ = some (.float .f32 x1) := blk_cell kB rfl
  have a43 : w5.cell? ⟨w.heap.size, 43, none⟩ = some (.float .f32 r.h2) := blk_cell kA rfl
  have b43_ : w5.cell? ⟨w.heap.size + 1, 43, none⟩ = some (.float .f32 x2) := blk_cell kB rfl
  have a44 : w5.cell? ⟨w.heap.size, 44, none⟩ = some (.float .f32 r.h3) := blk_cell kA rfl
  have b44_ : w5.cell? ⟨w.heap.size + 1, 44, none⟩ = some (.float .f32 x3) := blk_cell kB rfl
  go_wp2_with fail
  refine (c_eq4 _ _ _ _ _ _ _ _ _ V0.out V1.out V2.out V3.out).mono ?_
  rintro e w6 ⟨rfl, hb⟩
  clear a41 b41_ a42 b42_ a43 b43_ a44 b44_
  have kA1 := (hb.block _ (Array.getElem?_eq_some_iff.1 kA).1).trans kA
  have kB1 := (hb.block _ (Array.getElem?_eq_some_iff.1 kB).1).trans kB
  have HB1 := Lib.hid (HB.out.trans (hb.mono HB.out.size))
  clear kA kB HB hb
  have kA := kA1
  have kB := kB1
  have HB := HB1
  clear kA1 kB1 HB1
  have a45 : w6.cell? ⟨w.heap.size, 45, none⟩ = some (.float .f32 r.dry) := blk_cell kA rfl
  have b45_ : w6.cell? ⟨w.heap.size + 1, 45, none⟩ = some (.float .f32 r.dry) := blk_cell kB rfl
  have a46 : w6.cell? ⟨w.heap.size, 46, none⟩ = some (.float .f32 r.wet) := blk_cell kA rfl
  have b46_ : w6.cell? ⟨w.heap.size + 1, 46, none⟩ = some (.float .f32 r.wet) := blk_cell kB rfl
  clear kA kB
  go_wp2_with (go_at_call 28; refine (c_sameFloat _ _ _ _).mono ?_; rintro e w' ⟨rfl, n3, rfl⟩)
  go_ret
  have hbx := HB.out
  exact ⟨rfl, by (repeat (first | (with_reducible refine Below.drewN ?_) | (with_reducible refine Below.drew ?_) | ((with_reducible refine Below.alloc ?_ ?_ _); rotate_left; (first | omega | (simp <;> omega))) | ((with_reducible refine Below.setCell ?_ ?_ _); rotate_left; (first | omega | (simp <;> omega))) | (with_reducible exact Below.refl _ _) | (with_reducible assumption)))⟩
end Go.Proofs.Ytfhegjjgfaeinaa
