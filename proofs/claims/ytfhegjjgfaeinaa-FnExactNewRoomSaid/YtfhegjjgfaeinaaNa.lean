
/-
Arrays of rings and of combs are marked.
-/
import Derived.Test.YtfhegjjgfaeinaaYr
import Derived.Test.YtfhegjjgfaeinaaWz
namespace Go.Proofs.Ytfhegjjgfaeinaa
open Go Go.RowKit Fl
set_option maxHeartbeats 1600000 in
theorem c_markRingA4 (q0 : Rg) (q1 : Rg) (q2 : Rg) (q3 : Rg) (G0 G1 G2 G3 : Nat) (k : Int) (w : World) (h0 : OF w G0 q0.a q0.n q0.c q0.xs) (B0 : 0 < q0.n → G0 < w.heap.size) (h1 : OF w G1 q1.a q1.n q1.c q1.xs) (B1 : 0 < q1.n → G1 < w.heap.size) (h2 : OF w G2 q2.a q2.n q2.c q2.xs) (B2 : 0 < q2.n → G2 < w.heap.size) (h3 : OF w G3 q3.a q3.n q3.c q3.xs) (B3 : 0 < q3.n → G3 < w.heap.size) (ne01 : G0 ≠ G1) (ne02 : G0 ≠ G2) (ne03 : G0 ≠ G3) (ne12 : G1 ≠ G2) (ne13 : G1 ≠ G3) (ne23 : G2 ≠ G3) (hk0 : 0 ≤ k) (hk : k + (q0.n : Int) + (q1.n : Int) + (q2.n : Int) + (q3.n : Int) ≤ 1099511627776) :
    Calls Try.prog 81 #[.agg #[.slice q0.a q0.n q0.c, .int .i64 q0.i, .slice q1.a q1.n q1.c, .int .i64 q1.i, .slice q2.a q2.n q2.c, .int .i64 q2.i, .slice q3.a q3.n q3.c, .int .i64 q3.i], .int .i64 k] w (fun e w' => e = .returned (.int .i64 (k + (q0.n : Int) + (q1.n : Int) + (q2.n : Int) + (q3.n : Int))) ∧ Wr (gl q0.n G0 ++ gl q1.n G1 ++ gl q2.n G2 ++ gl q3.n G3) w w' ∧ OF w' G0 q0.a q0.n q0.c (marks (k) q0.n) ∧ OF w' G1 q1.a q1.n q1.c (marks (k + (q0.n : Int)) q1.n) ∧ OF w' G2 q2.a q2.n q2.c (marks (k + (q0.n : Int) + (q1.n : Int)) q2.n) ∧ OF w' G3 q3.a q3.n q3.c (marks (k + (q0.n : Int) + (q1.n : Int) + (q2.n : Int)) q3.n)) := by
  have H0 := Lib.hid h0
  clear h0
  have H1 := Lib.hid h1
  clear h1
  have H2 := Lib.hid h2
  clear h2
  have H3 := Lib.hid h3
  clear h3
  go_enter Try.func81, Try.ntmps81
  go_wp2
  have kA : (w.alloc (.cells #[.slice q0.a q0.n q0.c, .int .i64 q0.i, .slice q1.a q1.n q1.c, .int .i64 q1.i, .slice q2.a q2.n q2.c, .int .i64 q2.i, .slice q3.a q3.n q3.c, .int .i64 q3.i] 47)).heap[w.heap.size]? = some (.cells #[.slice q0.a q0.n q0.c, .int .i64 q0.i, .slice q1.a q1.n q1.c, .int .i64 q1.i, .slice q2.a q2.n q2.c, .int .i64 q2.i, .slice q3.a q3.n q3.c, .int .i64 q3.i] 47) := (MapKept.heap_alloc w _).1
  have bW : Below w.heap.size w (w.alloc (.cells #[.slice q0.a q0.n q0.c, .int .i64 q0.i, .slice q1.a q1.n q1.c, .int .i64 q1.i, .slice q2.a q2.n q2.c, .int .i64 q2.i, .slice q3.a q3.n q3.c, .int .i64 q3.i] 47)) := by (repeat (first | (with_reducible refine Below.drewN ?_) | (with_reducible refine Below.drew ?_) | ((with_reducible refine Below.alloc ?_ ?_ _); rotate_left; (first | omega | (simp <;> omega))) | ((with_reducible refine Below.setCell ?_ ?_ _); rotate_left; (first | omega | (simp <;> omega))) | (with_reducible exact Below.refl _ _) | (with_reducible assumption)))
  have zW : (w.alloc (.cells #[.slice q0.a q0.n q0.c, .int .i64 q0.i, .slice q1.a q1.n q1.c, .int .i64 q1.i, .slice q2.a q2.n q2.c, .int .i64 q2.i, .slice q3.a q3.n q3.c, .int .i64 q3.i] 47)).heap.size = w.heap.size + 1 := by simp
  generalize w.alloc (.cells #[.slice q0.a q0.n q0.c, .int .i64 q0.i, .slice q1.a q1.n q1.c, .int .i64 q1.i, .slice q2.a q2.n q2.c, .int .i64 q2.i, .slice q3.a q3.n q3.c, .int .i64 q3.i] 47) = w0 at *
  have H0 := Lib.hid (H0.out.below bW (Nat.le_refl _))
  have H1 := Lib.hid (H1.out.below bW (Nat.le_refl _))
  have H2 := Lib.hid (H2.out.below bW (Nat.le_refl _))
  have H3 := Lib.hid (H3.out.below bW (Nat.le_refl _))
  have R0 : Hid (Wr [] w w0) := Wr.of_below bW
  clear bW
  replace zW : w.heap.size < w0.heap.size := by omega
  refine wp_loop_rounds 5 ?_
  rw [rounds_succ]
  have a0 : w0.cell? ⟨w.heap.size, 0, none⟩ = some (.slice q0.a q0.n q0.c) := blk_cell kA rfl
  have a1 : w0.cell? ⟨w.heap.size, 1, none⟩ = some (.int .i64 q0.i) := blk_cell kA rfl
  go_wp2_with fail
  refine (c_markRing' G0 q0.a q0.n q0.c q0.xs q0.i (k) _ H0.out (fun h => by have := B0 h; omega) (by omega) (by omega)).mono ?_
  rintro e w1 ⟨rfl, wr, of⟩
  have kA1 := (wr.block _ zW (by simp only [mem_gl]; omega)).trans kA
  have H0 := Lib.hid of
  clear of
  have H1 := Lib.hid (OF.wr0 H1.out wr (fun _ => by simp only [mem_gl]; omega))
  have H2 := Lib.hid (OF.wr0 H2.out wr (fun _ => by simp only [mem_gl]; omega))
  have H3 := Lib.hid (OF.wr0 H3.out wr (fun _ => by simp only [mem_gl]; omega))
  have R1 := Lib.hid (R0.out.trans wr)
  have zW1 := Nat.lt_of_lt_of_le zW wr.size
  clear wr
  clear kA R0 zW a0 a1
  have kA := kA1
  have R0 := R1
  have zW := zW1
  clear kA1 R1 zW1
  go_wp2
  rw [rounds_succ]
  have a2 : w1.cell? ⟨w.heap.size, 2, none⟩ = some (.slice q1.a q1.n q1.c) := blk_cell kA rfl
  have a3 : w1.cell? ⟨w.heap.size, 3, none⟩ = some (.int .i64 q1.i) := blk_cell kA rfl
  go_wp2_with fail
  refine (c_markRing' G1 q1.a q1.n q1.c q1.xs q1.i (k + (q0.n : Int)) _ H1.out (fun h => by have := B1 h; omega) (by omega) (by omega)).mono ?_
  rintro e w2 ⟨rfl, wr, of⟩
  have kA1 := (wr.block _ zW (by simp only [mem_gl]; omega)).trans kA
  have H1 := Lib.hid of
  clear of
  have H0 := Lib.hid (OF.wr0 H0.out wr (fun _ => by simp only [mem_gl]; omega))
  have H2 := Lib.hid (OF.wr0 H2.out wr (fun _ => by simp only [mem_gl]; omega))
  have H3 := Lib.hid (OF.wr0 H3.out wr (fun _ => by simp only [mem_gl]; omega))
  have R1 := Lib.hid (R0.out.trans wr)
  have zW1 := Nat.lt_of_lt_of_le zW wr.size
  clear wr
  clear kA R0 zW a2 a3
  have kA := kA1
  have R0 := R1
  have zW := zW1
  clear kA1 R1 zW1
  go_wp2
  rw [rounds_succ]
  have a4 : w2.cell? ⟨w.heap.size, 4, none⟩ = some (.slice q2.a q2.n q2.c) := blk_cell kA rfl
  have a5 : w2.cell? ⟨w.heap.size, 5, none⟩ = some (.int .i64 q2.i) := blk_cell kA rfl
  go_wp2_with fail
  refine (c_markRing' G2 q2.a q2.n q2.c q2.xs q2.i (k + (q0.n : Int) + (q1.n : Int)) _ H2.out (fun h => by have := B2 h; omega) (by omega) (by omega)).mono ?_
  rintro e w3 ⟨rfl, wr, of⟩
  have kA1 := (wr.block _ zW (by simp only [mem_gl]; omega)).trans kA
  have H2 := Lib.hid of
  clear of
  have H0 := Lib.hid (OF.wr0 H0.out wr (fun _ => by simp only [mem_gl]; omega))
  have H1 := Lib.hid (OF.wr0 H1.out wr (fun _ => by simp only [mem_gl]; omega))
  have H3 := Lib.hid (OF.wr0 H3.out wr (fun _ => by simp only [mem_gl]; omega))
  have R1 := Lib.hid (R0.out.trans wr)
  have zW1 := Nat.lt_of_lt_of_le zW wr.size
  clear wr
  clear kA R0 zW a4 a5
  have kA := kA1
  have R0 := R1
  have zW := zW1
  clear kA1 R1 zW1
  go_wp2
  rw [rounds_succ]
  have a6 : w3.cell? ⟨w.heap.size, 6, none⟩ = some (.slice q3.a q3.n q3.c) := blk_cell kA rfl
  have a7 : w3.cell? ⟨w.heap.size, 7, none⟩ = some (.int .i64 q3.i) := blk_cell kA rfl
  go_wp2_with fail
  refine (c_markRing' G3 q3.a q3.n q3.c q3.xs q3.i (k + (q0.n : Int) + (q1.n : Int) + (q2.n : Int)) _ H3.out (fun h => by have := B3 h; omega) (by omega) (by omega)).mono ?_
  rintro e w4 ⟨rfl, wr, of⟩
  have kA1 := (wr.block _ zW (by simp only [mem_gl]; omega)).trans kA
  have H3 := Lib.hid of
  clear of
  have H0 := Lib.hid (OF.wr0 H0.out wr (fun _ => by simp only [mem_gl]; omega))
  have H1 := Lib.hid (OF.wr0 H1.out wr (fun _ => by simp only [mem_gl]; omega))
  have H2 := Lib.hid (OF.wr0 H2.out wr (fun _ => by simp only [mem_gl]; omega))
  have R1 := Lib.hid (R0.out.trans wr)
  have zW1 := Nat.lt_of_lt_of_le zW wr.size
  clear wr
  clear kA R0 zW a6 a7
  have kA := kA1
  have R0 := R1
  have zW := zW1
  clear kA1 R1 zW1
  go_wp2
  rw [rounds_succ]
  go_wp2
  go_ret
  exact ⟨rfl, R0.out.mono (by simp), H0.out, H1.out, H2.out, H3.out⟩
set_option maxHeartbeats 1600000 in
theorem c_markCombA2 (q0 : Rg) (q1 : Rg) (x0 : Nat) (x1 : Nat) (G0 G1 : Nat) (k : Int) (w : World) (h0 : OF w G0 q0.a q0.n q0.c q0.xs) (B0 : 0 < q0.n → G0 < w.heap.size) (h1 : OF w G1 q1.a q1.n q1.c q1.xs) (B1 : 0 < q1.n → G1 < w.heap.size) (ne01 : G0 ≠ G1) (hk0 : 0 ≤ k) (hk : k + (q0.n : Int) + (q1.n : Int) ≤ 1099511627776) :
    Calls Try.prog 80 #[.agg #[.slice q0.a q0.n q0.c, .int .i64 q0.i, .float .f32 x0, .slice q1.a q1.n q1.c, .int .i64 q1.i, .float .f32 x1], .int .i64 k] w (fun e w' => e = .returned (.int .i64 (k + (q0.n : Int) + (q1.n : Int))) ∧ Wr (gl q0.n G0 ++ gl q1.n G1) w w' ∧ OF w' G0 q0.a q0.n q0.c (marks (k) q0.n) ∧ OF w' G1 q1.a q1.n q1.c (marks (k + (q0.n : Int)) q1.n)) := by
  have H0 := Lib.hid h0
  clear h0
  have H1 := Lib.hid h1
  clear h1
  go_enter Try.func80, Try.ntmps80
  go_wp2
  have kA : (w.alloc (.cells #[.slice q0.a q0.n q0.c, .int .i64 q0.i, .float .f32 x0, .slice q1.a q1.n q1.c, .int .i64 q1.i, .float .f32 x1] 46)).heap[w.heap.size]? = some (.cells #[.slice q0.a q0.n q0.c, .int .i64 q0.i, .float .f32 x0, .slice q1.a q1.n q1.c, .int .i64 q1.i, .float .f32 x1] 46) := (MapKept.heap_alloc w _).1
  have bW : Below w.heap.size w (w.alloc (.cells #[.slice q0.a q0.n q0.c, .int .i64 q0.i, .float .f32 x0, .slice q1.a q1.n q1.c, .int .i64 q1.i, .float .f32 x1] 46)) := by (repeat (first | (with_reducible refine Below.drewN ?_) | (with_reducible refine Below.drew ?_) | ((with_reducible refine Below.alloc ?_ ?_ _); rotate_left; (first | omega | (simp <;> omega))) | ((with_reducible refine Below.setCell ?_ ?_ _); rotate_left; (first | omega | (simp <;> omega))) | (with_reducible exact Below.refl _ _) | (with_reducible assumption)))
  have zW : (w.alloc (.cells #[.slice q0.a q0.n q0.c, .int .i64 q0.i, .float .f32 x0, .slice q1.a q1.n q1.c, .int .i64 q1.i, .float .f32 x1] 46)).heap.size = w.heap.size + 1 := by simp
  generalize w.alloc (.cells #[.slice q0.a q0.n q0.c, .int .i64 q0.i, .float .f32 x0, .slice q1.a q1.n q1.c, .int .i64 q1.i, .float .f32 x1] 46) = w0 at *
  have H0 := Lib.hid (H0.out.below bW (Nat.le_refl _))
  have H1 := Lib.hid (H1.out.below bW (Nat.le_refl _))
  have R0 : Hid (Wr [] w w0) := Wr.of_below bW
  clear bW
  replace zW : w.heap.size < w0.heap.size := by omega
  refine wp_loop_rounds 3 ?_
  rw [rounds_succ]
  have a0 : w0.cell? ⟨w.heap.size, 0, none⟩ = some (.slice q0.a q0.n q0.c) := blk_cell kA rfl
  have a1 : w0.cell? ⟨w.heap.size, 1, none⟩ = some (.int .i64 q0.i) := blk_cell kA rfl
  have a2 : w0.cell? ⟨w.heap.size, 2, none⟩ = some (.float .f32 x0) := blk_cell kA rfl
  go_wp2_with fail
  refine (c_markComb' G0 q0.a q0.n q0.c q0.xs q0.i x0 (k) _ H0.out (fun h => by have := B0 h; omega) (by omega) (by omega)).mono ?_
  rintro e w1 ⟨rfl, wr, of⟩
  have kA1 := (wr.block _ zW (by simp only [mem_gl]; omega)).trans kA
  have H0 := Lib.hid of
  clear of
  have H1 := Lib.hid (OF.wr0 H1.out wr (fun _ => by simp only [mem_gl]; omega))
  have R1 := Lib.hid (R0.out.trans wr)
  have zW1 := Nat.lt_of_lt_of_le zW wr.size
  clear wr
  clear kA R0 zW a0 a1 a2
  have kA := kA1
  have R0 := R1
  have zW := zW1
  clear kA1 R1 zW1
  go_wp2
  rw [rounds_succ]
  have a3 : w1.cell? ⟨w.heap.size, 3, none⟩ = some (.slice q1.a q1.n q1.c) := blk_cell kA rfl
  have a4 : w1.cell? ⟨w.heap.size, 4, none⟩ = some (.int .i64 q1.i) := blk_cell kA rfl
  have a5 : w1.cell? ⟨w.heap.size, 5, none⟩ = some (.float .f32 x1) := blk_cell kA rfl
  go_wp2_with fail
  refine (c_markComb' G1 q1.a q1.n q1.c q1.xs q1.i x1 (k + (q0.n : Int)) _ H1.out (fun h => by have := B1 h; omega) (by omega) (by omega)).mono ?_
  rintro e w2 ⟨rfl, wr, of⟩
  have kA1 := (wr.block _ zW (by simp only [mem_gl]; omega)).trans kA
  have H1 := Lib.hid of
  clear of
  have H0 := Lib.hid (OF.wr0 H0.out wr (fun _ => by simp only [mem_gl]; omega))
  have R1 := Lib.hid (R0.out.trans wr)
  have zW1 := Nat.lt_of_lt_of_le zW wr.size
  clear wr
  clear kA R0 zW a3 a4 a5
  have kA := kA1
  have R0 := R1
  have zW := zW1
  clear kA1 R1 zW1
  go_wp2
  rw [rounds_succ]
  go_wp2
  go_ret
  exact ⟨rfl, R0.out.mono (by simp), H0.out, H1.out⟩
theorem c_markTapS0 (a : Option Addr) (n c : Nat) (k : Int) (w : World) (hn : n = 0) : Calls Try.prog 79 #[.slice a n c, .int .i64 k] w (RetV (.int .i64 k) w) := by
  subst hn
  go_enter Try.func79, Try.ntmps79
  go_wp2
  refine wp_loop_rounds 1 ?_
  rw [rounds_succ]
  go_wp2
  go_ret
  exact ⟨rfl, by (repeat (first | (with_reducible refine Below.drewN ?_) | (with_reducible refine Below.drew ?_) | ((with_reducible refine Below.alloc ?_ ?_ _); rotate_left; (first | omega | (simp <;> omega))) | ((with_reducible refine Below.setCell ?_ ?_ _); rotate_left; (first | omega | (simp <;> omega))) | (with_reducible exact Below.refl _ _) | (with_reducible assumption)))⟩
set_option maxHeartbeats 1600000 in
theorem c_heldRingA4 (q0 : Rg) (q1 : Rg) (q2 : Rg) (q3 : Rg) (k : Int) (w : World) (h0 : FS w q0.a q0.n q0.c (marks (k) q0.n)) (h1 : FS w q1.a q1.n q1.c (marks (k + (q0.n : Int)) q1.n)) (h2 : FS w q2.a q2.n q2.c (marks (k + (q0.n : Int) + (q1.n : Int)) q2.n)) (h3 : FS w q3.a q3.n q3.c (marks (k + (q0.n : Int) + (q1.n : Int) + (q2.n : Int)) q3.n)) (hk0 : 0 ≤ k) (hk : k + (q0.n : Int) + (q1.n : Int) + (q2.n : Int) + (q3.n : Int) ≤ 1099511627776) :
    Calls Try.prog 85 #[.agg #[.slice q0.a q0.n q0.c, .int .i64 q0.i, .slice q1.a q1.n q1.c, .int .i64 q1.i, .slice q2.a q2.n q2.c, .int .i64 q2.i, .slice q3.a q3.n q3.c, .int .i64 q3.i], .int .i64 k] w (RetV (.int .i64 (k + (q0.n : Int) + (q1.n : Int) + (q2.n : Int) + (q3.n : Int))) w) := by
  have H0 := Lib.hid h0
  clear h0
  have H1 := Lib.hid h1
  clear h1
  have H2 := Lib.hid h2
  clear h2
  have H3 := Lib.hid h3
  clear h3
  go_enter Try.func85, Try.ntmps85
  go_wp2
  have kA : (w.alloc (.cells #[.slice q0.a q0.n q0.c, .int .i64 q0.i, .slice q1.a q1.n q1.c, .int .i64 q1.i, .slice q2.a q2.n q2.c, .int .i64 q2.i, .slice q3.a q3.n q3.c, .int .i64 q3.i] 47)).heap[w.heap.size]? = some (.cells #[.slice q0.a q0.n q0.c, .int .i64 q0.i, .slice q1.a q1.n q1.c, .int .i64 q1.i, .slice q2.a q2.n q2.c, .int .i64 q2.i, .slice q3.a q3.n q3.c, .int .i64 q3.i] 47) := (MapKept.heap_alloc w _).1
  have bW : Below w.heap.size w (w.alloc (.cells #[.slice q0.a q0.n q0.c, .int .i64 q0.i, .slice q1.a q1.n q1.c, .int .i64 q1.i, .slice q2.a q2.n q2.c, .int .i64 q2.i, .slice q3.a q3.n q3.c, .int .i64 q3.i] 47)) := by (repeat (first | (with_reducible refine Below.drewN ?_) | (with_reducible refine Below.drew ?_) | ((with_reducible refine Below.alloc ?_ ?_ _); rotate_left; (first | omega | (simp <;> omega))) | ((with_reducible refine Below.setCell ?_ ?_ _); rotate_left; (first | omega | (simp <;> omega))) | (with_reducible exact Below.refl _ _) | (with_reducible assumption)))
  have zW : (w.alloc (.cells #[.slice q0.a q0.n q0.c, .int .i64 q0.i, .slice q1.a q1.n q1.c, .int .i64 q1.i, .slice q2.a q2.n q2.c, .int .i64 q2.i, .slice q3.a q3.n q3.c, .int .i64 q3.i] 47)).heap.size = w.heap.size + 1 := by simp
  generalize w.alloc (.cells #[.slice q0.a q0.n q0.c, .int .i64 q0.i, .slice q1.a q1.n q1.c, .int .i64 q1.i, .slice q2.a q2.n q2.c, .int .i64 q2.i, .slice q3.a q3.n q3.c, .int .i64 q3.i] 47) = w0 at *
  have H0 := Lib.hid (H0.out.below bW (Nat.le_refl _))
  have H1 := Lib.hid (H1.out.below bW (Nat.le_refl _))
  have H2 := Lib.hid (H2.out.below bW (Nat.le_refl _))
  have H3 := Lib.hid (H3.out.below bW (Nat.le_refl _))
  have R0 := Lib.hid bW
  clear bW
  replace zW : w.heap.size < w0.heap.size := by omega
  refine wp_loop_rounds 5 ?_
  rw [rounds_succ]
  have a0 : w0.cell? ⟨w.heap.size, 0, none⟩ = some (.slice q0.a q0.n q0.c) := blk_cell kA rfl
  have a1 : w0.cell? ⟨w.heap.size, 1, none⟩ = some (.int .i64 q0.i) := blk_cell kA rfl
  go_wp2_with fail
  refine (c_heldRing' q0.a q0.n q0.c q0.i (k) _ H0.out (by omega) (by omega)).mono ?_
  rintro e w1 ⟨rfl, hb⟩
  have kA1 := (hb.block _ zW).trans kA
  have H0 := Lib.hid (H0.out.below hb (Nat.le_refl _))
  have H1 := Lib.hid (H1.out.below hb (Nat.le_refl _))
  have H2 := Lib.hid (H2.out.below hb (Nat.le_refl _))
  have H3 := Lib.hid (H3.out.below hb (Nat.le_refl _))
  have R1 := Lib.hid (R0.out.trans (hb.mono R0.out.size))
  have zW1 := Nat.lt_of_lt_of_le zW hb.size
  clear hb
  have g0 : ¬ (k + (q0.n : Int)) < 0 := by omega
  clear kA R0 zW a0 a1
  have kA := kA1
  have R0 := R1
  have zW := zW1
  clear kA1 R1 zW1
  go_wp2
  rw [rounds_succ]
  have a2 : w1.cell? ⟨w.heap.size, 2, none⟩ = some (.slice q1.a q1.n q1.c) := blk_cell kA rfl
  have a3 : w1.cell? ⟨w.heap.size, 3, none⟩ = some (.int .i64 q1.i) := blk_cell kA rfl
  go_wp2_with fail
  refine (c_heldRing' q1.a q1.n q1.c q1.i (k + (q0.n : Int)) _ H1.out (by omega) (by omega)).mono ?_
  rintro e w2 ⟨rfl, hb⟩
  have kA1 := (hb.block _ zW).trans kA
  have H0 := Lib.hid (H0.out.below hb (Nat.le_refl _))
  have H1 := Lib.hid (H1.out.below hb (Nat.le_refl _))
  have H2 := Lib.hid (H2.out.below hb (Nat.le_refl _))
  have H3 := Lib.hid (H3.out.below hb (Nat.le_refl _))
  have R1 := Lib.hid (R0.out.trans (hb.mono R0.out.size))
  have zW1 := Nat.lt_of_lt_of_le zW hb.size
  clear hb
  have g1 : ¬ (k + (q0.n : Int) + (q1.n : Int)) < 0 := by omega
  clear kA R0 zW a2 a3
  have kA := kA1
  have R0 := R1
  have zW := zW1
  clear kA1 R1 zW1
  go_wp2
  rw [rounds_succ]
  have a4 : w2.cell? ⟨w.heap.size, 4, none⟩ = some (.slice q2.a q2.n q2.c) := blk_cell kA rfl
  have a5 : w2.cell? ⟨w.heap.size, 5, none⟩ = some (.int .i64 q2.i) := blk_cell kA rfl
  go_wp2_with fail
  refine (c_heldRing' q2.a q2.n q2.c q2.i (k + (q0.n : Int) + (q1.n : Int)) _ H2.out (by omega) (by omega)).mono ?_
  rintro e w3 ⟨rfl, hb⟩
  have kA1 := (hb.block _ zW).trans kA
  have H0 := Lib.hid (H0.out.below hb (Nat.le_refl _))
  have H1 := Lib.hid (H1.out.below hb (Nat.le_refl _))
  have H2 := Lib.hid (H2.out.below hb (Nat.le_refl _))
  have H3 := Lib.hid (H3.out.below hb (Nat.le_refl _))
  have R1 := Lib.hid (R0.out.trans (hb.mono R0.out.size))
  have zW1 := Nat.lt_of_lt_of_le zW hb.size
  clear hb
  have g2 : ¬ (k + (q0.n : Int) + (q1.n : Int) + (q2.n : Int)) < 0 := by omega
  clear kA R0 zW a4 a5
  have kA := kA1
  have R0 := R1
  have zW := zW1
  clear kA1 R1 zW1
  go_wp2
  rw [rounds_succ]
  have a6 : w3.cell? ⟨w.heap.size, 6, none⟩ = some (.slice q3.a q3.n q3.c) := blk_cell kA rfl
  have a7 : w3.cell? ⟨w.heap.size, 7, none⟩ = some (.int .i64 q3.i) := blk_cell kA rfl
  go_wp2_with fail
  refine (c_heldRing' q3.a q3.n q3.c q3.i (k + (q0.n : Int) + (q1.n : Int) + (q2.n : Int)) _ H3.out (by omega) (by omega)).mono ?_
  rintro e w4 ⟨rfl, hb⟩
  have kA1 := (hb.block _ zW).trans kA
  have H0 := Lib.hid (H0.out.below hb (Nat.le_refl _))
  have H1 := Lib.hid (H1.out.below hb (Nat.le_refl _))
  have H2 := Lib.hid (H2.out.below hb (Nat.le_refl _))
  have H3 := Lib.hid (H3.out.below hb (Nat.le_refl _))
  have R1 := Lib.hid (R0.out.trans (hb.mono R0.out.size))
  have zW1 := Nat.lt_of_lt_of_le zW hb.size
  clear hb
  have g3 : ¬ (k + (q0.n : Int) + (q1.n : Int) + (q2.n : Int) + (q3.n : Int)) < 0 := by omega
  clear kA R0 zW a6 a7
  have kA := kA1
  have R0 := R1
  have zW := zW1
  clear kA1 R1 zW1
  go_wp2
  rw [rounds_succ]
  go_wp2
  go_ret
  exact ⟨rfl, R0.out⟩
set_option maxHeartbeats 1600000 in
theorem c_heldCombA2 (q0 : Rg) (q1 : Rg) (x0 : Nat) (x1 : Nat) (k : Int) (w : World) (h0 : FS w q0.a q0.n q0.c (marks (k) q0.n)) (h1 : FS w q1.a q1.n q1.c (marks (k + (q0.n : Int)) q1.n)) (hk0 : 0 ≤ k) (hk : k + (q0.n : Int) + (q1.n : Int) ≤ 1099511627776) :
    Calls Try.prog 84 #[.agg #[.slice q0.a q0.n q0.c, .int .i64 q0.i, .float .f32 x0, .slice q1.a q1.n q1.c, .int .i64 q1.i, .float .f32 x1], .int .i64 k] w (RetV (.int .i64 (k + (q0.n : Int) + (q1.n : Int))) w) := by
  have H0 := Lib.hid h0
  clear h0
  have H1 := Lib.hid h1
  clear h1
  go_enter Try.func84, Try.ntmps84
  go_wp2
  have kA : (w.alloc (.cells #[.slice q0.a q0.n q0.c, .int .i64 q0.i, .float .f32 x0, .slice q1.a q1.n q1.c, .int .i64 q1.i, .float .f32 x1] 46)).heap[w.heap.size]? = some (.cells #[.slice q0.a q0.n q0.c, .int .i64 q0.i, .float .f32 x0, .slice q1.a q1.n q1.c, .int .i64 q1.i, .float .f32 x1] 46) := (MapKept.heap_alloc w _).1
  have bW : Below w.heap.size w (w.alloc (.cells #[.slice q0.a q0.n q0.c, .int .i64 q0.i, .float .f32 x0, .slice q1.a q1.n q1.c, .int .i64 q1.i, .float .f32 x1] 46)) := by (repeat (first | (with_reducible refine Below.drewN ?_) | (with_reducible refine Below.drew ?_) | ((with_reducible refine Below.alloc ?_ ?_ _); rotate_left; (first | omega | (simp <;> omega))) | ((with_reducible refine Below.setCell ?_ ?_ _); rotate_left; (first | omega | (simp <;> omega))) | (with_reducible exact Below.refl _ _) | (with_reducible assumption)))
  have zW : (w.alloc (.cells #[.slice q0.a q0.n q0.c, .int .i64 q0.i, .float .f32 x0, .slice q1.a q1.n q1.c, .int .i64 q1.i, .float .f32 x1] 46)).heap.size = w.heap.size + 1 := by simp
  generalize w.alloc (.cells #[.slice q0.a q0.n q0.c, .int .i64 q0.i, .float .f32 x0, .slice q1.a q1.n q1.c, .int .i64 q1.i, .float .f32 x1] 46) = w0 at *
  have H0 := Lib.hid (H0.out.below bW (Nat.le_refl _))
  have H1 := Lib.hid (H1.out.below bW (Nat.le_refl _))
  have R0 := Lib.hid bW
  clear bW
  replace zW : w.heap.size < w0.heap.size := by omega
  refine wp_loop_rounds 3 ?_
  rw [rounds_succ]
  have a0 : w0.cell? ⟨w.heap.size, 0, none⟩ = some (.slice q0.a q0.n q0.c) := blk_cell kA rfl
  have a1 : w0.cell? ⟨w.heap.size, 1, none⟩ = some (.int .i64 q0.i) := blk_cell kA rfl
  have a2 : w0.cell? ⟨w.heap.size, 2, none⟩ = some (.float .f32 x0) := blk_cell kA rfl
  go_wp2_with fail
  refine (c_heldComb' q0.a q0.n q0.c q0.i x0 (k) _ H0.out (by omega) (by omega)).mono ?_
  rintro e w1 ⟨rfl, hb⟩
  have kA1 := (hb.block _ zW).trans kA
  have H0 := Lib.hid (H0.out.below hb (Nat.le_refl _))
  have H1 := Lib.hid (H1.out.below hb (Nat.le_refl _))
  have R1 := Lib.hid (R0.out.trans (hb.mono R0.out.size))
  have zW1 := Nat.lt_of_lt_of_le zW hb.size
  clear hb
  have g0 : ¬ (k + (q0.n : Int)) < 0 := by omega
  clear kA R0 zW a0 a1 a2
  have kA := kA1
  have R0 := R1
  have zW := zW1
  clear kA1 R1 zW1
  go_wp2
  rw [rounds_succ]
  have a3 : w1.cell? ⟨w.heap.size, 3, none⟩ = some (.slice q1.a q1.n q1.c) := blk_cell kA rfl
  have a4 : w1.cell? ⟨w.heap.size, 4, none⟩ = some (.int .i64 q1.i) := blk_cell kA rfl
  have a5 : w1.cell? ⟨w.heap.size, 5, none⟩ = some (.float .f32 x1) := blk_cell kA rfl
  go_wp2_with fail
  refine (c_heldComb' q1.a q1.n q1.c q1.i x1 (k + (q0.n : Int)) _ H1.out (by omega) (by omega)).mono ?_
  rintro e w2 ⟨rfl, hb⟩
  have kA1 := (hb.block _ zW).trans kA
  have H0 := Lib.hid (H0.out.below hb (Nat.le_refl _))
  have H1 := Lib.hid (H1.out.below hb (Nat.le_refl _))
  have R1 := Lib.hid (R0.out.trans (hb.mono R0.out.size))
  have zW1 := Nat.lt_of_lt_of_le zW hb.size
  clear hb
  have g1 : ¬ (k + (q0.n : Int) + (q1.n : Int)) < 0 := by omega
  clear kA R0 zW a3 a4 a5
  have kA := kA1
  have R0 := R1
  have zW := zW1
  clear kA1 R1 zW1
  go_wp2
  rw [rounds_succ]
  go_wp2
  go_ret
  exact ⟨rfl, R0.out⟩
theorem c_heldTapS0 (a : Option Addr) (n c : Nat) (k : Int) (w : World) (hn : n = 0) : Calls Try.prog 83 #[.slice a n c, .int .i64 k] w (RetV (.int .i64 k) w) := by
  subst hn
  go_enter Try.func83, Try.ntmps83
  go_wp2
  refine wp_loop_rounds 1 ?_
  rw [rounds_succ]
  go_wp2
  go_ret
  exact ⟨rfl, by (repeat (first | (with_reducible refine Below.drewN ?_) | (with_reducible refine Below.drew ?_) | ((with_reducible refine Below.alloc ?_ ?_ _); rotate_left; (first | omega | (simp <;> omega))) | ((with_reducible refine Below.setCell ?_ ?_ _); rotate_left; (first | omega | (simp <;> omega))) | (with_reducible exact Below.refl _ _) | (with_reducible assumption)))⟩
end Go.Proofs.Ytfhegjjgfaeinaa
