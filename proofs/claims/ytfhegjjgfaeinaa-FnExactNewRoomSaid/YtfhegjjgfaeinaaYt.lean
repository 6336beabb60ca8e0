
/-
Copies of arrays of rings, of combs and of filters.
-/
import Derived.Test.YtfhegjjgfaeinaaYr
namespace Go.Proofs.Ytfhegjjgfaeinaa
open Go Go.RowKit Fl
set_option maxRecDepth 100000 in
set_option maxHeartbeats 1600000 in
theorem c_toRingA4 (q0 : Rg) (q1 : Rg) (q2 : Rg) (q3 : Rg) (w : World) (h0 : FS w q0.a q0.n q0.c q0.xs) (m0 : q0.n ≤ 1048576) (h1 : FS w q1.a q1.n q1.c q1.xs) (m1 : q1.n ≤ 1048576) (h2 : FS w q2.a q2.n q2.c q2.xs) (m2 : q2.n ≤ 1048576) (h3 : FS w q3.a q3.n q3.c q3.xs) (m3 : q3.n ≤ 1048576) :
    Calls Try.prog 102 #[.agg #[.slice q0.a q0.n q0.c, .int .i64 q0.i, .slice q1.a q1.n q1.c, .int .i64 q1.i, .slice q2.a q2.n q2.c, .int .i64 q2.i, .slice q3.a q3.n q3.c, .int .i64 q3.i]] w (fun e w' => ∃ g0 g1 g2 g3, e = .returned (.agg #[.slice (some ⟨g0, 0, none⟩) q0.n q0.n, .int .i64 q0.i, .slice (some ⟨g1, 0, none⟩) q1.n q1.n, .int .i64 q1.i, .slice (some ⟨g2, 0, none⟩) q2.n q2.n, .int .i64 q2.i, .slice (some ⟨g3, 0, none⟩) q3.n q3.n, .int .i64 q3.i]) ∧ Below w.heap.size w w' ∧ w.heap.size ≤ g0 ∧ FS w' (some ⟨g0, 0, none⟩) q0.n q0.n q0.xs ∧ w.heap.size ≤ g1 ∧ FS w' (some ⟨g1, 0, none⟩) q1.n q1.n q1.xs ∧ w.heap.size ≤ g2 ∧ FS w' (some ⟨g2, 0, none⟩) q2.n q2.n q2.xs ∧ w.heap.size ≤ g3 ∧ FS w' (some ⟨g3, 0, none⟩) q3.n q3.n q3.xs) := by
  have H0 := Lib.hid h0
  clear h0
  have H1 := Lib.hid h1
  clear h1
  have H2 := Lib.hid h2
  clear h2
  have H3 := Lib.hid h3
  clear h3
  go_enter Try.func102, Try.ntmps102
  go_wp2
  refine wp_named ?_
  intro W0 hW0
  have K := three_alloc w (.cells #[.slice q0.a q0.n q0.c, .int .i64 q0.i, .slice q1.a q1.n q1.c, .int .i64 q1.i, .slice q2.a q2.n q2.c, .int .i64 q2.i, .slice q3.a q3.n q3.c, .int .i64 q3.i] 74) (.cells #[.slice none 0 0, .int .i64 0, .slice none 0 0, .int .i64 0, .slice none 0 0, .int .i64 0, .slice none 0 0, .int .i64 0] 47) (.cells #[.slice none 0 0, .int .i64 0, .slice none 0 0, .int .i64 0, .slice none 0 0, .int .i64 0, .slice none 0 0, .int .i64 0] 47)
  rw [← hW0] at K
  obtain ⟨kA, kR, kB, zW, bW⟩ := K
  clear hW0
  have HB := Lib.hid bW
  clear bW
  refine wp_loop_rounds 5 ?_
  rw [rounds_succ]
  have a0 : W0.cell? ⟨w.heap.size, 0, none⟩ = some (.slice q0.a q0.n q0.c) := blk_cell kA rfl
  have a1 : W0.cell? ⟨w.heap.size, 1, none⟩ = some (.int .i64 q0.i) := blk_cell kA rfl
  go_wp2_with fail
  refine (c_toRing' q0.a q0.n q0.c q0.xs q0.i _ (FS.below (B := w.heap.size) H0.out HB.out (Nat.le_refl _)) m0).mono ?_
  rintro e w1 ⟨g0, rfl, hb1, lg0, gt0, of0⟩
  have zW1 : w.heap.size + 3 ≤ w1.heap.size := by have := hb1.size; (try simp at this); omega
  have kA1 : w1.heap[w.heap.size]? = some (.cells #[.slice q0.a q0.n q0.c, .int .i64 q0.i, .slice q1.a q1.n q1.c, .int .i64 q1.i, .slice q2.a q2.n q2.c, .int .i64 q2.i, .slice q3.a q3.n q3.c, .int .i64 q3.i] 74) := (hb1.block (w.heap.size) (by first | omega | (simp; omega))).trans kA
  have kR1 : w1.heap[w.heap.size + 1]? = some (.cells #[.slice none 0 0, .int .i64 0, .slice none 0 0, .int .i64 0, .slice none 0 0, .int .i64 0, .slice none 0 0, .int .i64 0] 47) := (hb1.block (w.heap.size + 1) (by first | omega | (simp; omega))).trans kR
  have kB1 : w1.heap[w.heap.size + 1 + 1]? = some (.cells #[.slice none 0 0, .int .i64 0, .slice none 0 0, .int .i64 0, .slice none 0 0, .int .i64 0, .slice none 0 0, .int .i64 0] 47) := hb1.block (w.heap.size + 1 + 1) (by first | omega | (simp; omega)) |>.trans kB
  have HB1 := Lib.hid (Below.trans HB.out (hb1.mono (by first | omega | (simp; omega))))
  have F0 := Lib.hid of0.fs
  clear of0
  have lo_g0 : w.heap.size + 3 ≤ g0 := by have := lg0; (try simp at this); omega
  clear a0 a1
  clear kA kR kB hb1 HB zW
  have kA := kA1
  have kR := kR1
  have kB := kB1
  have HB := HB1
  have zW := zW1
  clear kA1 kR1 kB1 HB1 zW1
  have b0 : w1.cell? ⟨w.heap.size + 1 + 1, 0, none⟩ = some (.slice none 0 0) := blk_cell kB rfl
  have b1 : w1.cell? ⟨w.heap.size + 1 + 1, 1, none⟩ = some (.int .i64 0) := blk_cell kB rfl
  have u0 : w1.frozen? ⟨w.heap.size + 1 + 1, 0, none⟩ = false := blk_free kB 0
  have u1 : w1.frozen? ⟨w.heap.size + 1 + 1, 1, none⟩ = false := blk_free kB 1
  go_wp2
  clear b0 b1 u0 u1
  generalize hV10 : ((((w1).setCell ⟨w.heap.size + 1 + 1, 0, none⟩ (.slice (some ⟨g0, 0, none⟩) q0.n q0.n))).setCell ⟨w.heap.size + 1 + 1, 1, none⟩ (.int .i64 q0.i)) = V1
  have hV1 := hV10.symm
  clear hV10
  have kB1 : V1.heap[w.heap.size + 1 + 1]? = some (.cells #[.slice (some ⟨g0, 0, none⟩) q0.n q0.n, .int .i64 q0.i, .slice none 0 0, .int .i64 0, .slice none 0 0, .int .i64 0, .slice none 0 0, .int .i64 0] 47) := by
    rw [hV1, show (#[.slice (some ⟨g0, 0, none⟩) q0.n q0.n, .int .i64 q0.i, .slice none 0 0, .int .i64 0, .slice none 0 0, .int .i64 0, .slice none 0 0, .int .i64 0] : Array Value) = ((#[.slice none 0 0, .int .i64 0, .slice none 0 0, .int .i64 0, .slice none 0 0, .int .i64 0, .slice none 0 0, .int .i64 0]).setIfInBounds 0 (.slice (some ⟨g0, 0, none⟩) q0.n q0.n)).setIfInBounds 1 (.int .i64 q0.i) by kernel_rfl]
    exact (blk_set_cs (blk_set_cs kB _ _) _ _)
  have kA1 : V1.heap[w.heap.size]? = some (.cells #[.slice q0.a q0.n q0.c, .int .i64 q0.i, .slice q1.a q1.n q1.c, .int .i64 q1.i, .slice q2.a q2.n q2.c, .int .i64 q2.i, .slice q3.a q3.n q3.c, .int .i64 q3.i] 74) := by rw [hV1]; exact ((Below.heap_setCell _ _ _ _ (show w.heap.size ≠ w.heap.size + 1 + 1 by omega)).trans (Below.heap_setCell _ _ _ _ (show w.heap.size ≠ w.heap.size + 1 + 1 by omega))).trans kA
  have kR1 : V1.heap[w.heap.size + 1]? = some (.cells #[.slice none 0 0, .int .i64 0, .slice none 0 0, .int .i64 0, .slice none 0 0, .int .i64 0, .slice none 0 0, .int .i64 0] 47) := by rw [hV1]; exact ((Below.heap_setCell _ _ _ _ (show w.heap.size + 1 ≠ w.heap.size + 1 + 1 by omega)).trans (Below.heap_setCell _ _ _ _ (show w.heap.size + 1 ≠ w.heap.size + 1 + 1 by omega))).trans kR
  have zW1 : w.heap.size + 3 ≤ V1.heap.size := by rw [hV1]; simp; omega
  have zV1 : w1.heap.size ≤ V1.heap.size := by rw [hV1]; simp
  have HB1 : Hid (Below w.heap.size w V1) := by
    have hbx := HB.out
    show Below _ _ _
    rw [hV1]
    (repeat (first | (with_reducible refine Below.drewN ?_) | (with_reducible refine Below.drew ?_) | ((with_reducible refine Below.alloc ?_ ?_ _); rotate_left; (first | omega | (simp <;> omega))) | ((with_reducible refine Below.setCell ?_ ?_ _); rotate_left; (first | omega | (simp <;> omega))) | (with_reducible exact Below.refl _ _) | (with_reducible assumption)))
  have F0 := Lib.hid (F0.out.same2 zV1 (fun b o e hl => by cases e; rw [hV1]; exact ((Below.heap_setCell _ _ _ _ (show g0 ≠ w.heap.size + 1 + 1 by omega)).trans (Below.heap_setCell _ _ _ _ (show g0 ≠ w.heap.size + 1 + 1 by omega)))))
  have gt0 : g0 < V1.heap.size := by omega
  clear hV1 kA kR kB HB zW zV1
  have kA := kA1
  have kR := kR1
  have kB := kB1
  have HB := HB1
  have zW := zW1
  clear kA1 kR1 kB1 HB1 zW1
  rw [rounds_succ]
  have a2 : V1.cell? ⟨w.heap.size, 2, none⟩ = some (.slice q1.a q1.n q1.c) := blk_cell kA rfl
  have a3 : V1.cell? ⟨w.heap.size, 3, none⟩ = some (.int .i64 q1.i) := blk_cell kA rfl
  go_wp2_with fail
  refine (c_toRing' q1.a q1.n q1.c q1.xs q1.i _ (FS.below (B := w.heap.size) H1.out HB.out (Nat.le_refl _)) m1).mono ?_
  rintro e w2 ⟨g1, rfl, hb2, lg1, gt1, of1⟩
  have zW2 : w.heap.size + 3 ≤ w2.heap.size := by have := hb2.size; (try simp at this); omega
  have kA2 : w2.heap[w.heap.size]? = some (.cells #[.slice q0.a q0.n q0.c, .int .i64 q0.i, .slice q1.a q1.n q1.c, .int .i64 q1.i, .slice q2.a q2.n q2.c, .int .i64 q2.i, .slice q3.a q3.n q3.c, .int .i64 q3.i] 74) := (hb2.block (w.heap.size) (by first | omega | (simp; omega))).trans kA
  have kR2 : w2.heap[w.heap.size + 1]? = some (.cells #[.slice none 0 0, .int .i64 0, .slice none 0 0, .int .i64 0, .slice none 0 0, .int .i64 0, .slice none 0 0, .int .i64 0] 47) := (hb2.block (w.heap.size + 1) (by first | omega | (simp; omega))).trans kR
  have kB2 : w2.heap[w.heap.size + 1 + 1]? = some (.cells #[.slice (some ⟨g0, 0, none⟩) q0.n q0.n, .int .i64 q0.i, .slice none 0 0, .int .i64 0, .slice none 0 0, .int .i64 0, .slice none 0 0, .int .i64 0] 47) := hb2.block (w.heap.size + 1 + 1) (by first | omega | (simp; omega)) |>.trans kB
  have HB2 := Lib.hid (Below.trans HB.out (hb2.mono (by first | omega | (simp; omega))))
  have F0 := Lib.hid (F0.out.same2 (by have := hb2.size; (try simp at this); omega) (fun b o e hl => by cases e; exact (hb2.block _ (by first | omega | (simp; omega)))))
  have gt0 : g0 < w2.heap.size := by have := hb2.size; (try simp at this); omega
  have F1 := Lib.hid of1.fs
  clear of1
  have lo_g1 : w.heap.size + 3 ≤ g1 := by have := lg1; (try simp at this); omega
  clear a2 a3
  clear kA kR kB hb2 HB zW
  have kA := kA2
  have kR := kR2
  have kB := kB2
  have HB := HB2
  have zW := zW2
  clear kA2 kR2 kB2 HB2 zW2
  have b2 : w2.cell? ⟨w.heap.size + 1 + 1, 2, none⟩ = some (.slice none 0 0) := blk_cell kB rfl
  have b3 : w2.cell? ⟨w.heap.size + 1 + 1, 3, none⟩ = some (.int .i64 0) := blk_cell kB rfl
  have u2 : w2.frozen? ⟨w.heap.size + 1 + 1, 2, none⟩ = false := blk_free kB 2
  have u3 : w2.frozen? ⟨w.heap.size + 1 + 1, 3, none⟩ = false := blk_free kB 3
  go_wp2
  clear b2 b3 u2 u3
  generalize hV20 : ((((w2).setCell ⟨w.heap.size + 1 + 1, 2, none⟩ (.slice (some ⟨g1, 0, none⟩) q1.n q1.n))).setCell ⟨w.heap.size + 1 + 1, 3, none⟩ (.int .i64 q1.i)) = V2
  have hV2 := hV20.symm
  clear hV20
  have kB2 : V2.heap[w.heap.size + 1 + 1]? = some (.cells #[.slice (some ⟨g0, 0, none⟩) q0.n q0.n, .int .i64 q0.i, .slice (some ⟨g1, 0, none⟩) q1.n q1.n, .int .i64 q1.i, .slice none 0 0, .int .i64 0, .slice none 0 0, .int .i64 0] 47) := by
    rw [hV2, show (#[.slice (some ⟨g0, 0, none⟩) q0.n q0.n, .int .i64 q0.i, .slice (some ⟨g1, 0, none⟩) q1.n q1.n, .int .i64 q1.i, .slice none 0 0, .int .i64 0, .slice none 0 0, .int .i64 0] : Array Value) = ((#[.slice (some ⟨g0, 0, none⟩) q0.n q0.n, .int .i64 q0.i, .slice none 0 0, .int .i64 0, .slice none 0 0, .int .i64 0, .slice none 0 0, .int .i64 0]).setIfInBounds 2 (.slice (some ⟨g1, 0, none⟩) q1.n q1.n)).setIfInBounds 3 (.int .i64 q1.i) by kernel_rfl]
    exact (blk_set_cs (blk_set_cs kB _ _) _ _)
  have kA2 : V2.heap[w.heap.size]? = some (.cells #[.slice q0.a q0.n q0.c, .int .i64 q0.i, .slice q1.a q1.n q1.c, .int .i64 q1.i, .slice q2.a q2.n q2.c, .int .i64 q2.i, .slice q3.a q3.n q3.c, .int .i64 q3.i] 74) := by rw [hV2]; exact ((Below.heap_setCell _ _ _ _ (show w.heap.size ≠ w.heap.size + 1 + 1 by omega)).trans (Below.heap_setCell _ _ _ _ (show w.heap.size ≠ w.heap.size + 1 + 1 by omega))).trans kA
  have kR2 : V2.heap[w.heap.size + 1]? = some (.cells #[.slice none 0 0, .int .i64 0, .slice none 0 0, .int .i64 0, .slice none 0 0, .int .i64 0, .slice none 0 0, .int .i64 0] 47) := by rw [hV2]; exact ((Below.heap_setCell _ _ _ _ (show w.heap.size + 1 ≠ w.heap.size + 1 + 1 by omega)).trans (Below.heap_setCell _ _ _ _ (show w.heap.size + 1 ≠ w.heap.size + 1 + 1 by omega))).trans kR
  have zW2 : w.heap.size + 3 ≤ V2.heap.size := by rw [hV2]; simp; omega
  have zV2 : w2.heap.size ≤ V2.heap.size := by rw [hV2]; simp
  have HB2 : Hid (Below w.heap.size w V2) := by
    have hbx := HB.out
    show Below _ _ _
    rw [hV2]
    (repeat (first | (with_reducible refine Below.drewN ?_) | (with_reducible refine Below.drew ?_) | ((with_reducible refine Below.alloc ?_ ?_ _); rotate_left; (first | omega | (simp <;> omega))) | ((with_reducible refine Below.setCell ?_ ?_ _); rotate_left; (first | omega | (simp <;> omega))) | (with_reducible exact Below.refl _ _) | (with_reducible assumption)))
  have F0 := Lib.hid (F0.out.same2 zV2 (fun b o e hl => by cases e; rw [hV2]; exact ((Below.heap_setCell _ _ _ _ (show g0 ≠ w.heap.size + 1 + 1 by omega)).trans (Below.heap_setCell _ _ _ _ (show g0 ≠ w.heap.size + 1 + 1 by omega)))))
  have gt0 : g0 < V2.heap.size := by omega
  have F1 := Lib.hid (F1.out.same2 zV2 (fun b o e hl => by cases e; rw [hV2]; exact ((Below.heap_setCell _ _ _ _ (show g1 ≠ w.heap.size + 1 + 1 by omega)).trans (Below.heap_setCell _ _ _ _ (show g1 ≠ w.heap.size + 1 + 1 by omega)))))
  have gt1 : g1 < V2.heap.size := by omega
  clear hV2 kA kR kB HB zW zV2
  have kA := kA2
  have kR := kR2
  have kB := kB2
  have HB := HB2
  have zW := zW2
  clear kA2 kR2 kB2 HB2 zW2
  rw [rounds_succ]
  have a4 : V2.cell? ⟨w.heap.size, 4, none⟩ = some (.slice q2.a q2.n q2.c) := blk_cell kA rfl
  have a5 : V2.cell? ⟨w.heap.size, 5, none⟩ = some (.int .i64 q2.i) := blk_cell kA rfl
  go_wp2_with fail
  refine (c_toRing' q2.a q2.n q2.c q2.xs q2.i _ (FS.below (B := w.heap.size) H2.out HB.out (Nat.le_refl _)) m2).mono ?_
  rintro e w3 ⟨g2, rfl, hb3, lg2, gt2, of2⟩
  have zW3 : w.heap.size + 3 ≤ w3.heap.size := by have := hb3.size; (try simp at this); omega
  have kA3 : w3.heap[w.heap.size]? = some (.cells #[.slice q0.a q0.n q0.c, .int .i64 q0.i, .slice q1.a q1.n q1.c, .int .i64 q1.i, .slice q2.a q2.n q2.c, .int .i64 q2.i, .slice q3.a q3.n q3.c, .int .i64 q3.i] 74) := (hb3.block (w.heap.size) (by first | omega | (simp; omega))).trans kA
  have kR3 : w3.heap[w.heap.size + 1]? = some (.cells #[.slice none 0 0, .int .i64 0, .slice none 0 0, .int .i64 0, .slice none 0 0, .int .i64 0, .slice none 0 0, .int .i64 0] 47) := (hb3.block (w.heap.size + 1) (by first | omega | (simp; omega))).trans kR
  have kB3 : w3.heap[w.heap.size + 1 + 1]? = some (.cells #[.slice (some ⟨g0, 0, none⟩) q0.n q0.n, .int .i64 q0.i, .slice (some ⟨g1, 0, none⟩) q1.n q1.n, .int .i64 q1.i, .slice none 0 0, .int .i64 0, .slice none 0 0, .int .i64 0] 47) := hb3.block (w.heap.size + 1 + 1) (by first | omega | (simp; omega)) |>.trans kB
  have HB3 := Lib.hid (Below.trans HB.out (hb3.mono (by first | omega | (simp; omega))))
  have F0 := Lib.hid (F0.out.same2 (by have := hb3.size; (try simp at this); omega) (fun b o e hl => by cases e; exact (hb3.block _ (by first | omega | (simp; omega)))))
  have gt0 : g0 < w3.heap.size := by have := hb3.size; (try simp at this); omega
  have F1 := Lib.hid (F1.out.same2 (by have := hb3.size; (try simp at this); omega) (fun b o e hl => by cases e; exact (hb3.block _ (by first | omega | (simp; omega)))))
  have gt1 : g1 < w3.heap.size := by have := hb3.size; (try simp at this); omega
  have F2 := Lib.hid of2.fs
  clear of2
  have lo_g2 : w.heap.size + 3 ≤ g2 := by have := lg2; (try simp at this); omega
  clear a4 a5
  clear kA kR kB hb3 HB zW
  have kA := kA3
  have kR := kR3
  have kB := kB3
  have HB := HB3
  have zW := zW3
  clear kA3 kR3 kB3 HB3 zW3
  have b4 : w3.cell? ⟨w.heap.size + 1 + 1, 4, none⟩ = some (.slice none 0 0) := blk_cell kB rfl
  have b5 : w3.cell? ⟨w.heap.size + 1 + 1, 5, none⟩ = some (.int .i64 0) := blk_cell kB rfl
  have u4 : w3.frozen? ⟨w.heap.size + 1 + 1, 4, none⟩ = false := blk_free kB 4
  have u5 : w3.frozen? ⟨w.heap.size + 1 + 1, 5, none⟩ = false := blk_free kB 5
  go_wp2
  clear b4 b5 u4 u5
  generalize hV30 : ((((w3).setCell ⟨w.heap.size + 1 + 1, 4, none⟩ (.slice (some ⟨g2, 0, none⟩) q2.n q2.n))).setCell ⟨w.heap.size + 1 + 1, 5, none⟩ (.int .i64 q2.i)) = V3
  have hV3 := hV30.symm
  clear hV30
  have kB3 : V3.heap[w.heap.size + 1 + 1]? = some (.cells #[.slice (some ⟨g0, 0, none⟩) q0.n q0.n, .int .i64 q0.i, .slice (some ⟨g1, 0, none⟩) q1.n q1.n, .int .i64 q1.i, .slice (some ⟨g2, 0, none⟩) q2.n q2.n, .int .i64 q2.i, .slice none 0 0, .int .i64 0] 47) := by
    rw [hV3, show (#[.slice (some ⟨g0, 0, none⟩) q0.n q0.n, .int .i64 q0.i, .slice (some ⟨g1, 0, none⟩) q1.n q1.n, .int .i64 q1.i, .slice (some ⟨g2, 0, none⟩) q2.n q2.n, .int .i64 q2.i, .slice none 0 0, .int .i64 0] : Array Value) = ((#[.slice (some ⟨g0, 0, none⟩) q0.n q0.n, .int .i64 q0.i, .slice (some ⟨g1, 0, none⟩) q1.n q1.n, .int .i64 q1.i, .slice none 0 0, .int .i64 0, .slice none 0 0, .int .i64 0]).setIfInBounds 4 (.slice (some ⟨g2, 0, none⟩) q2.n q2.n)).setIfInBounds 5 (.int .i64 q2.i) by kernel_rfl]
    exact (blk_set_cs (blk_set_cs kB _ _) _ _)
  have kA3 : V3.heap[w.heap.size]? = some (.cells #[.slice q0.a q0.n q0.c, .int .i64 q0.i, .slice q1.a q1.n q1.c, .int .i64 q1.i, .slice q2.a q2.n q2.c, .int .i64 q2.i, .slice q3.a q3.n q3.c, .int .i64 q3.i] 74) := by rw [hV3]; exact ((Below.heap_setCell _ _ _ _ (show w.heap.size ≠ w.heap.size + 1 + 1 by omega)).trans (Below.heap_setCell _ _ _ _ (show w.heap.size ≠ w.heap.size + 1 + 1 by omega))).trans kA
  have kR3 : V3.heap[w.heap.size + 1]? = some (.cells #[.slice none 0 0, .int .i64 0, .slice none 0 0, .int .i64 0, .slice none 0 0, .int .i64 0, .slice none 0 0, .int .i64 0] 47) := by rw [hV3]; exact ((Below.heap_setCell _ _ _ _ (show w.heap.size + 1 ≠ w.heap.size + 1 + 1 by omega)).trans (Below.heap_setCell _ _ _ _ (show w.heap.size + 1 ≠ w.heap.size + 1 + 1 by omega))).trans kR
  have zW3 : w.heap.size + 3 ≤ V3.heap.size := by rw [hV3]; simp; omega
  have zV3 : w3.heap.size ≤ V3.heap.size := by rw [hV3]; simp
  have HB3 : Hid (Below w.heap.size w V3) := by
    have hbx := HB.out
    show Below _ _ _
    rw [hV3]
    (repeat (first | (with_reducible refine Below.drewN ?_) | (with_reducible refine Below.drew ?_) | ((with_reducible refine Below.alloc ?_ ?_ _); rotate_left; (first | omega | (simp <;> omega))) | ((with_reducible refine Below.setCell ?_ ?_ _); rotate_left; (first | omega | (simp <;> omega))) | (with_reducible exact Below.refl _ _) | (with_reducible assumption)))
  have F0 := Lib.hid (F0.out.same2 zV3 (fun b o e hl => by cases e; rw [hV3]; exact ((Below.heap_setCell _ _ _ _ (show g0 ≠ w.heap.size + 1 + 1 by omega)).trans (Below.heap_setCell _ _ _ _ (show g0 ≠ w.heap.size + 1 + 1 by omega)))))
  have gt0 : g0 < V3.heap.size := by omega
  have F1 := Lib.hid (F1.out.same2 zV3 (fun b o e hl => by cases e; rw [hV3]; exact ((Below.heap_setCell _ _ _ _ (show g1 ≠ w.heap.size + 1 + 1 by omega)).trans (Below.heap_setCell _ _ _ _ (show g1 ≠ w.heap.size + 1 + 1 by omega)))))
  have gt1 : g1 < V3.heap.size := by omega
  have F2 := Lib.hid (F2.out.same2 zV3 (fun b o e hl => by cases e; rw [hV3]; exact ((Below.heap_setCell _ _ _ _ (show g2 ≠ w.heap.size + 1 + 1 by omega)).trans (Below.heap_setCell _ _ _ _ (show g2 ≠ w.heap.size + 1 + 1 by omega)))))
  have gt2 : g2 < V3.heap.size := by omega
  clear hV3 kA kR kB HB zW zV3
  have kA := kA3
  have kR := kR3
  have kB := kB3
  have HB := HB3
  have zW := zW3
  clear kA3 kR3 kB3 HB3 zW3
  rw [rounds_succ]
  have a6 : V3.cell? ⟨w.heap.size, 6, none⟩ = some (.slice q3.a q3.n q3.c) := blk_cell kA rfl
  have a7 : V3.cell? ⟨w.heap.size, 7, none⟩ = some (.int .i64 q3.i) := blk_cell kA rfl
  go_wp2_with fail
  refine (c_toRing' q3.a q3.n q3.c q3.xs q3.i _ (FS.below (B := w.heap.size) H3.out HB.out (Nat.le_refl _)) m3).mono ?_
  rintro e w4 ⟨g3, rfl, hb4, lg3, gt3, of3⟩
  have zW4 : w.heap.size + 3 ≤ w4.heap.size := by have := hb4.size; (try simp at this); omega
  have kA4 : w4.heap[w.heap.size]? = some (.cells #[.slice q0.a q0.n q0.c, .int .i64 q0.i, .slice q1.a q1.n q1.c, .int .i64 q1.i, .slice q2.a q2.n q2.c, .int .i64 q2.i, .slice q3.a q3.n q3.c, .int .i64 q3.i] 74) := (hb4.block (w.heap.size) (by first | omega | (simp; omega))).trans kA
  have kR4 : w4.heap[w.heap.size + 1]? = some (.cells #[.slice none 0 0, .int .i64 0, .slice none 0 0, .int .i64 0, .slice none 0 0, .int .i64 0, .slice none 0 0, .int .i64 0] 47) := (hb4.block (w.heap.size + 1) (by first | omega | (simp; omega))).trans kR
  have kB4 : w4.heap[w.heap.size + 1 + 1]? = some (.cells #[.slice (some ⟨g0, 0, none⟩) q0.n q0.n, .int .i64 q0.i, .slice (some ⟨g1, 0, none⟩) q1.n q1.n, .int .i64 q1.i, .slice (some ⟨g2, 0, none⟩) q2.n q2.n, .int .i64 q2.i, .slice none 0 0, .int .i64 0] 47) := hb4.block (w.heap.size + 1 + 1) (by first | omega | (simp; omega)) |>.trans kB
  have HB4 := Lib.hid (Below.trans HB.out (hb4.mono (by first | omega | (simp; omega))))
  have F0 := Lib.hid (F0.out.same2 (by have := hb4.size; (try simp at this); omega) (fun b o e hl => by cases e; exact (hb4.block _ (by first | omega | (simp; omega)))))
  have gt0 : g0 < w4.heap.size := by have := hb4.size; (try simp at this); omega
  have F1 := Lib.hid (F1.out.same2 (by have := hb4.size; (try simp at this); omega) (fun b o e hl => by cases e; exact (hb4.block _ (by first | omega | (simp; omega)))))
  have gt1 : g1 < w4.heap.size := by have := hb4.size; (try simp at this); omega
  have F2 := Lib.hid (F2.out.same2 (by have := hb4.size; (try simp at this); omega) (fun b o e hl => by cases e; exact (hb4.block _ (by first | omega | (simp; omega)))))
  have gt2 : g2 < w4.heap.size := by have := hb4.size; (try simp at this); omega
  have F3 := Lib.hid of3.fs
  clear of3
  have lo_g3 : w.heap.size + 3 ≤ g3 := by have := lg3; (try simp at this); omega
  clear a6 a7
  clear kA kR kB hb4 HB zW
  have kA := kA4
  have kR := kR4
  have kB := kB4
  have HB := HB4
  have zW := zW4
  clear kA4 kR4 kB4 HB4 zW4
  have b6 : w4.cell? ⟨w.heap.size + 1 + 1, 6, none⟩ = some (.slice none 0 0) := blk_cell kB rfl
  have b7 : w4.cell? ⟨w.heap.size + 1 + 1, 7, none⟩ = some (.int .i64 0) := blk_cell kB rfl
  have u6 : w4.frozen? ⟨w.heap.size + 1 + 1, 6, none⟩ = false := blk_free kB 6
  have u7 : w4.frozen? ⟨w.heap.size + 1 + 1, 7, none⟩ = false := blk_free kB 7
  go_wp2
  clear b6 b7 u6 u7
  generalize hV40 : ((((w4).setCell ⟨w.heap.size + 1 + 1, 6, none⟩ (.slice (some ⟨g3, 0, none⟩) q3.n q3.n))).setCell ⟨w.heap.size + 1 + 1, 7, none⟩ (.int .i64 q3.i)) = V4
  have hV4 := hV40.symm
  clear hV40
  have kB4 : V4.heap[w.heap.size + 1 + 1]? = some (.cells #[.slice (some ⟨g0, 0, none⟩) q0.n q0.n, .int .i64 q0.i, .slice (some ⟨g1, 0, none⟩) q1.n q1.n, .int .i64 q1.i, .slice (some ⟨g2, 0, none⟩) q2.n q2.n, .int .i64 q2.i, .slice (some ⟨g3, 0, none⟩) q3.n q3.n, .int .i64 q3.i] 47) := by
    rw [hV4, show (#[.slice (some ⟨g0, 0, none⟩) q0.n q0.n, .int .i64 q0.i, .slice (some ⟨g1, 0, none⟩) q1.n q1.n, .int .i64 q1.i, .slice (some ⟨g2, 0, none⟩) q2.n q2.n, .int .i64 q2.i, .slice (some ⟨g3, 0, none⟩) q3.n q3.n, .int .i64 q3.i] : Array Value) = ((#[.slice (some ⟨g0, 0, none⟩) q0.n q0.n, .int .i64 q0.i, .slice (some ⟨g1, 0, none⟩) q1.n q1.n, .int .i64 q1.i, .slice (some ⟨g2, 0, none⟩) q2.n q2.n, .int .i64 q2.i, .slice none 0 0, .int .i64 0]).setIfInBounds 6 (.slice (some ⟨g3, 0, none⟩) q3.n q3.n)).setIfInBounds 7 (.int .i64 q3.i) by kernel_rfl]
    exact (blk_set_cs (blk_set_cs kB _ _) _ _)
  have kA4 : V4.heap[w.heap.size]? = some (.cells #[.slice q0.a q0.n q0.c, .int .i64 q0.i, .slice q1.a q1.n q1.c, .int .i64 q1.i, .slice q2.a q2.n q2.c, .int .i64 q2.i, .slice q3.a q3.n q3.c, .int .i64 q3.i] 74) := by rw [hV4]; exact ((Below.heap_setCell _ _ _ _ (show w.heap.size ≠ w.heap.size + 1 + 1 by omega)).trans (Below.heap_setCell _ _ _ _ (show w.heap.size ≠ w.heap.size + 1 + 1 by omega))).trans kA
  have kR4 : V4.heap[w.heap.size + 1]? = some (.cells #[.slice none 0 0, .int .i64 0, .slice none 0 0, .int .i64 0, .slice none 0 0, .int .i64 0, .slice none 0 0, .int .i64 0] 47) := by rw [hV4]; exact ((Below.heap_setCell _ _ _ _ (show w.heap.size + 1 ≠ w.heap.size + 1 + 1 by omega)).trans (Below.heap_setCell _ _ _ _ (show w.heap.size + 1 ≠ w.heap.size + 1 + 1 by omega))).trans kR
  have zW4 : w.heap.size + 3 ≤ V4.heap.size := by rw [hV4]; simp; omega
  have zV4 : w4.heap.size ≤ V4.heap.size := by rw [hV4]; simp
  have HB4 : Hid (Below w.heap.size w V4) := by
    have hbx := HB.out
    show Below _ _ _
    rw [hV4]
    (repeat (first | (with_reducible refine Below.drewN ?_) | (with_reducible refine Below.drew ?_) | ((with_reducible refine Below.alloc ?_ ?_ _); rotate_left; (first | omega | (simp <;> omega))) | ((with_reducible refine Below.setCell ?_ ?_ _); rotate_left; (first | omega | (simp <;> omega))) | (with_reducible exact Below.refl _ _) | (with_reducible assumption)))
  have F0 := Lib.hid (F0.out.same2 zV4 (fun b o e hl => by cases e; rw [hV4]; exact ((Below.heap_setCell _ _ _ _ (show g0 ≠ w.heap.size + 1 + 1 by omega)).trans (Below.heap_setCell _ _ _ _ (show g0 ≠ w.heap.size + 1 + 1 by omega)))))
  have gt0 : g0 < V4.heap.size := by omega
  have F1 := Lib.hid (F1.out.same2 zV4 (fun b o e hl => by cases e; rw [hV4]; exact ((Below.heap_setCell _ _ _ _ (show g1 ≠ w.heap.size + 1 + 1 by omega)).trans (Below.heap_setCell _ _ _ _ (show g1 ≠ w.heap.size + 1 + 1 by omega)))))
  have gt1 : g1 < V4.heap.size := by omega
  have F2 := Lib.hid (F2.out.same2 zV4 (fun b o e hl => by cases e; rw [hV4]; exact ((Below.heap_setCell _ _ _ _ (show g2 ≠ w.heap.size + 1 + 1 by omega)).trans (Below.heap_setCell _ _ _ _ (show g2 ≠ w.heap.size + 1 + 1 by omega)))))
  have gt2 : g2 < V4.heap.size := by omega
  have F3 := Lib.hid (F3.out.same2 zV4 (fun b o e hl => by cases e; rw [hV4]; exact ((Below.heap_setCell _ _ _ _ (show g3 ≠ w.heap.size + 1 + 1 by omega)).trans (Below.heap_setCell _ _ _ _ (show g3 ≠ w.heap.size + 1 + 1 by omega)))))
  have gt3 : g3 < V4.heap.size := by omega
  clear hV4 kA kR kB HB zW zV4
  have kA := kA4
  have kR := kR4
  have kB := kB4
  have HB := HB4
  have zW := zW4
  clear kA4 kR4 kB4 HB4 zW4
  rw [rounds_succ]
  go_upto_region 6 with fail
  refine wp_named ?_
  intro W hW
  have kB1 : W.heap[w.heap.size + 1 + 1]? = some (.cells #[.slice (some ⟨g0, 0, none⟩) q0.n q0.n, .int .i64 q0.i, .slice (some ⟨g1, 0, none⟩) q1.n q1.n, .int .i64 q1.i, .slice (some ⟨g2, 0, none⟩) q2.n q2.n, .int .i64 q2.i, .slice (some ⟨g3, 0, none⟩) q3.n q3.n, .int .i64 q3.i] 47) := by rw [hW]; exact kB
  have kR1 : W.heap[w.heap.size + 1]? = some (.cells #[.slice none 0 0, .int .i64 0, .slice none 0 0, .int .i64 0, .slice none 0 0, .int .i64 0, .slice none 0 0, .int .i64 0] 47) := by rw [hW]; exact kR
  have BW : Below w.heap.size w W := by
    have hbx := HB.out
    rw [hW]
    (repeat (first | (with_reducible refine Below.drewN ?_) | (with_reducible refine Below.drew ?_) | ((with_reducible refine Below.alloc ?_ ?_ _); rotate_left; (first | omega | (simp <;> omega))) | ((with_reducible refine Below.setCell ?_ ?_ _); rotate_left; (first | omega | (simp <;> omega))) | (with_reducible exact Below.refl _ _) | (with_reducible assumption)))
  have zV : V4.heap.size ≤ W.heap.size := by rw [hW]; simp
  have F0 := F0.out.same2 zV (fun b o e hl => by cases e; rw [hW])
  have F1 := F1.out.same2 zV (fun b o e hl => by cases e; rw [hW])
  have F2 := F2.out.same2 zV (fun b o e hl => by cases e; rw [hW])
  have F3 := F3.out.same2 zV (fun b o e hl => by cases e; rw [hW])
  clear hW kA kB kR HB
  obtain ⟨L, hL⟩ : ∃ L : List Value, L = [.slice (some ⟨g0, 0, none⟩) q0.n q0.n, .int .i64 q0.i, .slice (some ⟨g1, 0, none⟩) q1.n q1.n, .int .i64 q1.i, .slice (some ⟨g2, 0, none⟩) q2.n q2.n, .int .i64 q2.i, .slice (some ⟨g3, 0, none⟩) q3.n q3.n, .int .i64 q3.i] := ⟨_, rfl⟩
  have kB2 : W.heap[w.heap.size + 1 + 1]? = some (.cells L.toArray 47) := by rw [hL]; exact kB1
  have hlen : L.length = 8 := by rw [hL]; kernel_rfl
  have hone : L.toArray.all (·.oneCell') = true := by rw [hL]; kernel_rfl
  have HL := Lib.hid hL
  clear hL
  have RG : W.rangeAt (w.heap.size + 1 + 1) 0 L := range_of_blk kB2
  have TH0 : W.there (w.heap.size + 1) 0 (#[.slice none 0 0, .int .i64 0, .slice none 0 0, .int .i64 0, .slice none 0 0, .int .i64 0, .slice none 0 0, .int .i64 0] : Array Value).size := there_of_blk kR1
  have TH : W.there (w.heap.size + 1) 0 L.length := by rw [hlen, ← show (#[.slice none 0 0, .int .i64 0, .slice none 0 0, .int .i64 0, .slice none 0 0, .int .i64 0, .slice none 0 0, .int .i64 0] : Array Value).size = 8 by kernel_rfl]; exact TH0
  have TS2 : W.there (w.heap.size + 1) 0 L.toArray.size := by rw [List.size_toArray]; exact TH
  have hR := Lib.hid (run_loadVar_mid (P := Try.prog) (W.setCells (w.heap.size + 1) 0 L) (w.heap.size + 1) 0 47 L _ (World.rangeAt_setCells_same _ _ _ _ TH) Try.underlying47 rfl (by rw [hlen]; kernel_rfl))
  have WR := wr_setCells (w.heap.size + 1) L 0 W
  clear kB1 kR1 kB2 TH0 TH
  have hi1 : (Try.prog.info? 47).map (·.size) = some L.length := by rw [hlen]; kernel_rfl
  have hi2 : (Try.prog.info? 47).map (·.size) = some L.toArray.size := by rw [List.size_toArray]; exact hi1
  refine wp_region_lit ?_
  refine wpList_load_mid rfl 47 _ rfl (w.heap.size + 1 + 1) 0 rfl L _ RG Try.underlying47 rfl hi1 ?_
  refine wpList_store_mid rfl 47 _ _ rfl (w.heap.size + 1) 0 L.toArray rfl rfl TS2 hi2 hone ?_
  clear hlen hone RG TS2 hi1 hi2
  go_wp2
  refine bodyPost_ret (v := .agg L.toArray) (results_cell Try.results102 rfl hR.out) rfl ?_
  have BE : Below w.heap.size w (W.setCells (w.heap.size + 1) 0 L) := BW.trans (WR.below (by have := BW.size; omega) (by simp))
  have F0 := F0.same2 WR.size (fun b o e hl => by cases e; exact WR.block _ hl (by simp; omega))
  have F1 := F1.same2 WR.size (fun b o e hl => by cases e; exact WR.block _ hl (by simp; omega))
  have F2 := F2.same2 WR.size (fun b o e hl => by cases e; exact WR.block _ hl (by simp; omega))
  have F3 := F3.same2 WR.size (fun b o e hl => by cases e; exact WR.block _ hl (by simp; omega))
  have hL := HL.out
  exact ⟨g0, g1, g2, g3, by rw [hL], BE, by omega, F0, by omega, F1, by omega, F2, by omega, F3⟩

set_option maxRecDepth 100000 in
set_option maxHeartbeats 1600000 in
theorem c_toCombA2 (q0 : Rg) (q1 : Rg) (x0 : Nat) (x1 : Nat) (w : World) (h0 : FS w q0.a q0.n q0.c q0.xs) (m0 : q0.n ≤ 1048576) (h1 : FS w q1.a q1.n q1.c q1.xs) (m1 : q1.n ≤ 1048576) :
    Calls Try.prog 101 #[.agg #[.slice q0.a q0.n q0.c, .int .i64 q0.i, .float .f32 x0, .slice q1.a q1.n q1.c, .int .i64 q1.i, .float .f32 x1]] w (fun e w' => ∃ g0 g1, e = .returned (.agg #[.slice (some ⟨g0, 0, none⟩) q0.n q0.n, .int .i64 q0.i, .float .f32 x0, .slice (some ⟨g1, 0, none⟩) q1.n q1.n, .int .i64 q1.i, .float .f32 x1]) ∧ Below w.heap.size w w' ∧ w.heap.size ≤ g0 ∧ FS w' (some ⟨g0, 0, none⟩) q0.n q0.n q0.xs ∧ w.heap.size ≤ g1 ∧ FS w' (some ⟨g1, 0, none⟩) q1.n q1.n q1.xs) := by
  have H0 := Lib.hid h0
  clear h0
  have H1 := Lib.hid h1
  clear h1
  go_enter Try.func101, Try.ntmps101
  go_wp2
  refine wp_named ?_
  intro W0 hW0
  have K := three_alloc w (.cells #[.slice q0.a q0.n q0.c, .int .i64 q0.i, .float .f32 x0, .slice q1.a q1.n q1.c, .int .i64 q1.i, .float .f32 x1] 73) (.cells #[.slice none 0 0, .int .i64 0, .float .f32 0, .slice none 0 0, .int .i64 0, .float .f32 0] 46) (.cells #[.slice none 0 0, .int .i64 0, .float .f32 0, .slice none 0 0, .int .i64 0, .float .f32 0] 46)
  rw [← hW0] at K
  obtain ⟨kA, kR, kB, zW, bW⟩ := K
  clear hW0
  have HB := Lib.hid bW
  clear bW
  refine wp_loop_rounds 3 ?_
  rw [rounds_succ]
  have a0 : W0.cell? ⟨w.heap.size, 0, none⟩ = some (.slice q0.a q0.n q0.c) := blk_cell kA rfl
  have a1 : W0.cell? ⟨w.heap.size, 1, none⟩ = some (.int .i64 q0.i) := blk_cell kA rfl
  have a2 : W0.cell? ⟨w.heap.size, 2, none⟩ = some (.float .f32 x0) := blk_cell kA rfl
  go_wp2_with fail
  refine (c_toComb' q0.a q0.n q0.c q0.xs q0.i x0 _ (FS.below (B := w.heap.size) H0.out HB.out (Nat.le_refl _)) m0).mono ?_
  rintro e w1 ⟨g0, rfl, hb1, lg0, gt0, of0⟩
  have zW1 : w.heap.size + 3 ≤ w1.heap.size := by have := hb1.size; (try simp at this); omega
  have kA1 : w1.heap[w.heap.size]? = some (.cells #[.slice q0.a q0.n q0.c, .int .i64 q0.i, .float .f32 x0, .slice q1.a q1.n q1.c, .int .i64 q1.i, .float .f32 x1] 73) := (hb1.block (w.heap.size) (by first | omega | (simp; omega))).trans kA
  have kR1 : w1.heap[w.heap.size + 1]? = some (.cells #[.slice none 0 0, .int .i64 0, .float .f32 0, .slice none 0 0, .int .i64 0, .float .f32 0] 46) := (hb1.block (w.heap.size + 1) (by first | omega | (simp; omega))).trans kR
  have kB1 : w1.heap[w.heap.size + 1 + 1]? = some (.cells #[.slice none 0 0, .int .i64 0, .float .f32 0, .slice none 0 0, .int .i64 0, .float .f32 0] 46) := hb1.block (w.heap.size + 1 + 1) (by first | omega | (simp; omega)) |>.trans kB
  have HB1 := Lib.hid (Below.trans HB.out (hb1.mono (by first | omega | (simp; omega))))
  have F0 := Lib.hid of0.fs
  clear of0
  have lo_g0 : w.heap.size + 3 ≤ g0 := by have := lg0; (try simp at this); omega
  clear a0 a1 a2
  clear kA kR kB hb1 HB zW
  have kA := kA1
  have kR := kR1
  have kB := kB1
  have HB := HB1
  have zW := zW1
  clear kA1 kR1 kB1 HB1 zW1
  have b0 : w1.cell? ⟨w.heap.size + 1 + 1, 0, none⟩ = some (.slice none 0 0) := blk_cell kB rfl
  have b1 : w1.cell? ⟨w.heap.size + 1 + 1, 1, none⟩ = some (.int .i64 0) := blk_cell kB rfl
  have b2 : w1.cell? ⟨w.heap.size + 1 + 1, 2, none⟩ = some (.float .f32 0) := blk_cell kB rfl
  have u0 : w1.frozen? ⟨w.heap.size + 1 + 1, 0, none⟩ = false := blk_free kB 0
  have u1 : w1.frozen? ⟨w.heap.size + 1 + 1, 1, none⟩ = false := blk_free kB 1
  have u2 : w1.frozen? ⟨w.heap.size + 1 + 1, 2, none⟩ = false := blk_free kB 2
  go_wp2
  clear b0 b1 b2 u0 u1 u2
  generalize hV10 : ((((((w1).setCell ⟨w.heap.size + 1 + 1, 0, none⟩ (.slice (some ⟨g0, 0, none⟩) q0.n q0.n))).setCell ⟨w.heap.size + 1 + 1, 1, none⟩ (.int .i64 q0.i))).setCell ⟨w.heap.size + 1 + 1, 2, none⟩ (.float .f32 x0)) = V1
  have hV1 := hV10.symm
  clear hV10
  have kB1 : V1.heap[w.heap.size + 1 + 1]? = some (.cells #[.slice (some ⟨g0, 0, none⟩) q0.n q0.n, .int .i64 q0.i, .float .f32 x0, .slice none 0 0, .int .i64 0, .float .f32 0] 46) := by
    rw [hV1, show (#[.slice (some ⟨g0, 0, none⟩) q0.n q0.n, .int .i64 q0.i, .float .f32 x0, .slice none 0 0, .int .i64 0, .float .f32 0] : Array Value) = (((#[.slice none 0 0, .int .i64 0, .float .f32 0, .slice none 0 0, .int .i64 0, .float .f32 0]).setIfInBounds 0 (.slice (some ⟨g0, 0, none⟩) q0.n q0.n)).setIfInBounds 1 (.int .i64 q0.i)).setIfInBounds 2 (.float .f32 x0) by kernel_rfl]
    exact (blk_set_cs (blk_set_cs (blk_set_cs kB _ _) _ _) _ _)
  have kA1 : V1.heap[w.heap.size]? = some (.cells #[.slice q0.a q0.n q0.c, .int .i64 q0.i, .float .f32 x0, .slice q1.a q1.n q1.c, .int .i64 q1.i, .float .f32 x1] 73) := by rw [hV1]; exact ((Below.heap_setCell _ _ _ _ (show w.heap.size ≠ w.heap.size + 1 + 1 by omega)).trans ((Below.heap_setCell _ _ _ _ (show w.heap.size ≠ w.heap.size + 1 + 1 by omega)).trans (Below.heap_setCell _ _ _ _ (show w.heap.size ≠ w.heap.size + 1 + 1 by omega)))).trans kA
  have kR1 : V1.heap[w.heap.size + 1]? = some (.cells #[.slice none 0 0, .int .i64 0, .float .f32 0, .slice none 0 0, .int .i64 0, .float .f32 0] 46) := by rw [hV1]; exact ((Below.heap_setCell _ _ _ _ (show w.heap.size + 1 ≠ w.heap.size + 1 + 1 by omega)).trans ((Below.heap_setCell _ _ _ _ (show w.heap.size + 1 ≠ w.heap.size + 1 + 1 by omega)).trans (Below.heap_setCell _ _ _ _ (show w.heap.size + 1 ≠ w.heap.size + 1 + 1 by omega)))).trans kR
  have zW1 : w.heap.size + 3 ≤ V1.heap.size := by rw [hV1]; simp; omega
  have zV1 : w1.heap.size ≤ V1.heap.size := by rw [hV1]; simp
  have HB1 : Hid (Below w.heap.size w V1) := by
    have hbx := HB.out
    show Below _ _ _
    rw [hV1]
    (repeat (first | (with_reducible refine Below.drewN ?_) | (with_reducible refine Below.drew ?_) | ((with_reducible refine Below.alloc ?_ ?_ _); rotate_left; (first | omega | (simp <;> omega))) | ((with_reducible refine Below.setCell ?_ ?_ _); rotate_left; (first | omega | (simp <;> omega))) | (with_reducible exact Below.refl _ _) | (with_reducible assumption)))
  have F0 := Lib.hid (F0.out.same2 zV1 (fun b o e hl => by cases e; rw [hV1]; exact ((Below.heap_setCell _ _ _ _ (show g0 ≠ w.heap.size + 1 + 1 by omega)).trans ((Below.heap_setCell _ _ _ _ (show g0 ≠ w.heap.size + 1 + 1 by omega)).trans (Below.heap_setCell _ _ _ _ (show g0 ≠ w.heap.size + 1 + 1 by omega))))))
  clear hV1 kA kR kB HB zW zV1
  have kA := kA1
  have kR := kR1
  have kB := kB1
  have HB := HB1
  have zW := zW1
  clear kA1 kR1 kB1 HB1 zW1
  rw [rounds_succ]
  have a3 : V1.cell? ⟨w.heap.size, 3, none⟩ = some (.slice q1.a q1.n q1.c) := blk_cell kA rfl
  have a4 : V1.cell? ⟨w.heap.size, 4, none⟩ = some (.int .i64 q1.i) := blk_cell kA rfl
  have a5 : V1.cell? ⟨w.heap.size, 5, none⟩ = some (.float .f32 x1) := blk_cell kA rfl
  go_wp2_with fail
  refine (c_toComb' q1.a q1.n q1.c q1.xs q1.i x1 _ (FS.below (B := w.heap.size) H1.out HB.out (Nat.le_refl _)) m1).mono ?_
  rintro e w2 ⟨g1, rfl, hb2, lg1, gt1, of1⟩
  have zW2 : w.heap.size + 3 ≤ w2.heap.size := by have := hb2.size; (try simp at this); omega
  have kA2 : w2.heap[w.heap.size]? = some (.cells #[.slice q0.a q0.n q0.c, .int .i64 q0.i, .float .f32 x0, .slice q1.a q1.n q1.c, .int .i64 q1.i, .float .f32 x1] 73) := (hb2.block (w.heap.size) (by first | omega | (simp; omega))).trans kA
  have kR2 : w2.heap[w.heap.size + 1]? = some (.cells #[.slice none 0 0, .int .i64 0, .float .f32 0, .slice none 0 0, .int .i64 0, .float .f32 0] 46) := (hb2.block (w.heap.size + 1) (by first | omega | (simp; omega))).trans kR
  have kB2 : w2.heap[w.heap.size + 1 + 1]? = some (.cells #[.slice (some ⟨g0, 0, none⟩) q0.n q0.n, .int .i64 q0.i, .float .f32 x0, .slice none 0 0, .int .i64 0, .float .f32 0] 46) := hb2.block (w.heap.size + 1 + 1) (by first | omega | (simp; omega)) |>.trans kB
  have HB2 := Lib.hid (Below.trans HB.out (hb2.mono (by first | omega | (simp; omega))))
  have F0 := Lib.hid (F0.out.same2 (by have := hb2.size; (try simp at this); omega) (fun b o e hl => by cases e; exact (hb2.block _ (by first | omega | (simp; omega)))))
  have F1 := Lib.hid of1.fs
  clear of1
  have lo_g1 : w.heap.size + 3 ≤ g1 := by have := lg1; (try simp at this); omega
  clear a3 a4 a5
  clear kA kR kB hb2 HB zW
  have kA := kA2
  have kR := kR2
  have kB := kB2
  have HB := HB2
  have zW := zW2
  clear kA2 kR2 kB2 HB2 zW2
  have b3 : w2.cell? ⟨w.heap.size + 1 + 1, 3, none⟩ = some (.slice none 0 0) := blk_cell kB rfl
  have b4 : w2.cell? ⟨w.heap.size + 1 + 1, 4, none⟩ = some (.int .i64 0) := blk_cell kB rfl
  have b5 : w2.cell? ⟨w.heap.size + 1 + 1, 5, none⟩ = some (.float .f32 0) := blk_cell kB rfl
  have u3 : w2.frozen? ⟨w.heap.size + 1 + 1, 3, none⟩ = false := blk_free kB 3
  have u4 : w2.frozen? ⟨w.heap.size + 1 + 1, 4, none⟩ = false := blk_free kB 4
  have u5 : w2.frozen? ⟨w.heap.size + 1 + 1, 5, none⟩ = false := blk_free kB 5
  go_wp2
  clear b3 b4 b5 u3 u4 u5
  generalize hV20 : ((((((w2).setCell ⟨w.heap.size + 1 + 1, 3, none⟩ (.slice (some ⟨g1, 0, none⟩) q1.n q1.n))).setCell ⟨w.heap.size + 1 + 1, 4, none⟩ (.int .i64 q1.i))).setCell ⟨w.heap.size + 1 + 1, 5, none⟩ (.float .f32 x1)) = V2
  have hV2 := hV20.symm
  clear hV20
  have kB2 : V2.heap[w.heap.size + 1 + 1]? = some (.cells #[.slice (some ⟨g0, 0, none⟩) q0.n q0.n, .int .i64 q0.i, .float .f32 x0, .slice (some ⟨g1, 0, none⟩) q1.n q1.n, .int .i64 q1.i, .float .f32 x1] 46) := by
    rw [hV2, show (#[.slice (some ⟨g0, 0, none⟩) q0.n q0.n, .int .i64 q0.i, .float .f32 x0, .slice (some ⟨g1, 0, none⟩) q1.n q1.n, .int .i64 q1.i, .float .f32 x1] : Array Value) = (((#[.slice (some ⟨g0, 0, none⟩) q0.n q0.n, .int .i64 q0.i, .float .f32 x0, .slice none 0 0, .int .i64 0, .float .f32 0]).setIfInBounds 3 (.slice (some ⟨g1, 0, none⟩) q1.n q1.n)).setIfInBounds 4 (.int .i64 q1.i)).setIfInBounds 5 (.float .f32 x1) by kernel_rfl]
    exact (blk_set_cs (blk_set_cs (blk_set_cs kB _ _) _ _) _ _)
  have kA2 : V2.heap[w.heap.size]? = some (.cells #[.slice q0.a q0.n q0.c, .int .i64 q0.i, .float .f32 x0, .slice q1.a q1.n q1.c, .int .i64 q1.i, .float .f32 x1] 73) := by rw [hV2]; exact ((Below.heap_setCell _ _ _ _ (show w.heap.size ≠ w.heap.size + 1 + 1 by omega)).trans ((Below.heap_setCell _ _ _ _ (show w.heap.size ≠ w.heap.size + 1 + 1 by omega)).trans (Below.heap_setCell _ _ _ _ (show w.heap.size ≠ w.heap.size + 1 + 1 by omega)))).trans kA
  have kR2 : V2.heap[w.heap.size + 1]? = some (.cells #[.slice none 0 0, .int .i64 0, .float .f32 0, .slice none 0 0, .int .i64 0, .float .f32 0] 46) := by rw [hV2]; exact ((Below.heap_setCell _ _ _ _ (show w.heap.size + 1 ≠ w.heap.size + 1 + 1 by omega)).trans ((Below.heap_setCell _ _ _ _ (show w.heap.size + 1 ≠ w.heap.size + 1 + 1 by omega)).trans (Below.heap_setCell _ _ _ _ (show w.heap.size + 1 ≠ w.heap.size + 1 + 1 by omega)))).trans kR
  have zW2 : w.heap.size + 3 ≤ V2.heap.size := by rw [hV2]; simp; omega
  have zV2 : w2.heap.size ≤ V2.heap.size := by rw [hV2]; simp
  have HB2 : Hid (Below w.heap.size w V2) := by
    have hbx := HB.out
    show Below _ _ _
    rw [hV2]
    (repeat (first | (with_reducible refine Below.drewN ?_) | (with_reducible refine Below.drew ?_) | ((with_reducible refine Below.alloc ?_ ?_ _); rotate_left; (first | omega | (simp <;> omega))) | ((with_reducible refine Below.setCell ?_ ?_ _); rotate_left; (first | omega | (simp <;> omega))) | (with_reducible exact Below.refl _ _) | (with_reducible assumption)))
  have F0 := Lib.hid (F0.out.same2 zV2 (fun b o e hl => by cases e; rw [hV2]; exact ((Below.heap_setCell _ _ _ _ (show g0 ≠ w.heap.size + 1 + 1 by omega)).trans ((Below.heap_setCell _ _ _ _ (show g0 ≠ w.heap.size + 1 + 1 by omega)).trans (Below.heap_setCell _ _ _ _ (show g0 ≠ w.heap.size + 1 + 1 by omega))))))
  have F1 := Lib.hid (F1.out.same2 zV2 (fun b o e hl => by cases e; rw [hV2]; exact ((Below.heap_setCell _ _ _ _ (show g1 ≠ w.heap.size + 1 + 1 by omega)).trans ((Below.heap_setCell _ _ _ _ (show g1 ≠ w.heap.size + 1 + 1 by omega)).trans (Below.heap_setCell _ _ _ _ (show g1 ≠ w.heap.size + 1 + 1 by omega))))))
  clear hV2 kA kR kB HB zW zV2
  have kA := kA2
  have kR := kR2
  have kB := kB2
  have HB := HB2
  have zW := zW2
  clear kA2 kR2 kB2 HB2 zW2
  rw [rounds_succ]
  go_upto_region 6 with fail
  refine wp_named ?_
  intro W hW
  have kB1 : W.heap[w.heap.size + 1 + 1]? = some (.cells #[.slice (some ⟨g0, 0, none⟩) q0.n q0.n, .int .i64 q0.i, .float .f32 x0, .slice (some ⟨g1, 0, none⟩) q1.n q1.n, .int .i64 q1.i, .float .f32 x1] 46) := by rw [hW]; exact kB
  have kR1 : W.heap[w.heap.size + 1]? = some (.cells #[.slice none 0 0, .int .i64 0, .float .f32 0, .slice none 0 0, .int .i64 0, .float .f32 0] 46) := by rw [hW]; exact kR
  have BW : Below w.heap.size w W := by
    have hbx := HB.out
    rw [hW]
    (repeat (first | (with_reducible refine Below.drewN ?_) | (with_reducible refine Below.drew ?_) | ((with_reducible refine Below.alloc ?_ ?_ _); rotate_left; (first | omega | (simp <;> omega))) | ((with_reducible refine Below.setCell ?_ ?_ _); rotate_left; (first | omega | (simp <;> omega))) | (with_reducible exact Below.refl _ _) | (with_reducible assumption)))
  have zV : V2.heap.size ≤ W.heap.size := by rw [hW]; simp
  have F0 := F0.out.same2 zV (fun b o e hl => by cases e; rw [hW])
  have F1 := F1.out.same2 zV (fun b o e hl => by cases e; rw [hW])
  clear hW kA kB kR HB
  obtain ⟨L, hL⟩ : ∃ L : List Value, L = [.slice (some ⟨g0, 0, none⟩) q0.n q0.n, .int .i64 q0.i, .float .f32 x0, .slice (some ⟨g1, 0, none⟩) q1.n q1.n, .int .i64 q1.i, .float .f32 x1] := ⟨_, rfl⟩
  have kB2 : W.heap[w.heap.size + 1 + 1]? = some (.cells L.toArray 46) := by rw [hL]; exact kB1
  have hlen : L.length = 6 := by rw [hL]; kernel_rfl
  have hone : L.toArray.all (·.oneCell') = true := by rw [hL]; kernel_rfl
  have HL := Lib.hid hL
  clear hL
  have RG : W.rangeAt (w.heap.size + 1 + 1) 0 L := range_of_blk kB2
  have TH0 : W.there (w.heap.size + 1) 0 (#[.slice none 0 0, .int .i64 0, .float .f32 0, .slice none 0 0, .int .i64 0, .float .f32 0] : Array Value).size := there_of_blk kR1
  have TH : W.there (w.heap.size + 1) 0 L.length := by rw [hlen, ← show (#[.slice none 0 0, .int .i64 0, .float .f32 0, .slice none 0 0, .int .i64 0, .float .f32 0] : Array Value).size = 6 by kernel_rfl]; exact TH0
  have TS2 : W.there (w.heap.size + 1) 0 L.toArray.size := by rw [List.size_toArray]; exact TH
  have hR := Lib.hid (run_loadVar_mid (P := Try.prog) (W.setCells (w.heap.size + 1) 0 L) (w.heap.size + 1) 0 46 L _ (World.rangeAt_setCells_same _ _ _ _ TH) Try.underlying46 rfl (by rw [hlen]; kernel_rfl))
  have WR := wr_setCells (w.heap.size + 1) L 0 W
  clear kB1 kR1 kB2 TH0 TH
  have hi1 : (Try.prog.info? 46).map (·.size) = some L.length := by rw [hlen]; kernel_rfl
  have hi2 : (Try.prog.info? 46).map (·.size) = some L.toArray.size := by rw [List.size_toArray]; exact hi1
  refine wp_region_lit ?_
  refine wpList_load_mid rfl 46 _ rfl (w.heap.size + 1 + 1) 0 rfl L _ RG Try.underlying46 rfl hi1 ?_
  refine wpList_store_mid rfl 46 _ _ rfl (w.heap.size + 1) 0 L.toArray rfl rfl TS2 hi2 hone ?_
  clear hlen hone RG TS2 hi1 hi2
  go_wp2
  refine bodyPost_ret (v := .agg L.toArray) (results_cell Try.results101 rfl hR.out) rfl ?_
  have BE : Below w.heap.size w (W.setCells (w.heap.size + 1) 0 L) := BW.trans (WR.below (by have := BW.size; omega) (by simp))
  have F0 := F0.same2 WR.size (fun b o e hl => by cases e; exact WR.block _ hl (by simp; omega))
  have F1 := F1.same2 WR.size (fun b o e hl => by cases e; exact WR.block _ hl (by simp; omega))
  have hL := HL.out
  exact ⟨g0, g1, by rw [hL], BE, by omega, F0, by omega, F1⟩
set_option maxRecDepth 100000 in
set_option maxHeartbeats 1600000 in
theorem c_toFilterA4 (d0 : Ft) (d1 : Ft) (d2 : Ft) (d3 : Ft) (w : World) :
    Calls Try.prog 103 #[.agg #[.int .i64 d0.k, .float .f32 d0.f0, .float .f32 d0.f1, .float .f32 d0.f2, .float .f32 d0.f3, .float .f32 d0.f4, .int .i64 d1.k, .float .f32 d1.f0, .float .f32 d1.f1, .float .f32 d1.f2, .float .f32 d1.f3, .float .f32 d1.f4, .int .i64 d2.k, .float .f32 d2.f0, .float .f32 d2.f1, .float .f32 d2.f2, .float .f32 d2.f3, .float .f32 d2.f4, .int .i64 d3.k, .float .f32 d3.f0, .float .f32 d3.f1, .float .f32 d3.f2, .float .f32 d3.f3, .float .f32 d3.f4]] w (fun e w' => e = .returned (.agg #[.int .i64 d0.k, .float .f32 d0.f0, .float .f32 d0.f1, .float .f32 d0.f2, .float .f32 d0.f3, .float .f32 d0.f4, .int .i64 d1.k, .float .f32 d1.f0, .float .f32 d1.f1, .float .f32 d1.f2, .float .f32 d1.f3, .float .f32 d1.f4, .int .i64 d2.k, .float .f32 d2.f0, .float .f32 d2.f1, .float .f32 d2.f2, .float .f32 d2.f3, .float .f32 d2.f4, .int .i64 d3.k, .float .f32 d3.f0, .float .f32 d3.f1, .float .f32 d3.f2, .float .f32 d3.f3, .float .f32 d3.f4]) ∧ Below w.heap.size w w') := by
  go_enter Try.func103, Try.ntmps103
  go_wp2
  refine wp_named ?_
  intro W0 hW0
  have K := three_alloc w (.cells #[.int .i64 d0.k, .float .f32 d0.f0, .float .f32 d0.f1, .float .f32 d0.f2, .float .f32 d0.f3, .float .f32 d0.f4, .int .i64 d1.k, .float .f32 d1.f0, .float .f32 d1.f1, .float .f32 d1.f2, .float .f32 d1.f3, .float .f32 d1.f4, .int .i64 d2.k, .float .f32 d2.f0, .float .f32 d2.f1, .float .f32 d2.f2, .float .f32 d2.f3, .float .f32 d2.f4, .int .i64 d3.k, .float .f32 d3.f0, .float .f32 d3.f1, .float .f32 d3.f2, .float .f32 d3.f3, .float .f32 d3.f4] 75) (.cells #[.int .i64 0, .float .f32 0, .float .f32 0, .float .f32 0, .float .f32 0, .float .f32 0, .int .i64 0, .float .f32 0, .float .f32 0, .float .f32 0, .float .f32 0, .float .f32 0, .int .i64 0, .float .f32 0, .float .f32 0, .float .f32 0, .float .f32 0, .float .f32 0, .int .i64 0, .float .f32 0, .float .f32 0, .float .f32 0, .float .f32 0, .float .f32 0] 48) (.cells #[.int .i64 0, .float .f32 0, .float .f32 0, .float .f32 0, .float .f32 0, .float .f32 0, .int .i64 0, .float .f32 0, .float .f32 0, .float .f32 0, .float .f32 0, .float .f32 0, .int .i64 0, .float .f32 0, .float .f32 0, .float .f32 0, .float .f32 0, .float .f32 0, .int .i64 0, .float .f32 0, .float .f32 0, .float .f32 0, .float .f32 0, .float .f32 0] 48)
  rw [← hW0] at K
  obtain ⟨kA, kR, kB, zW, bW⟩ := K
  clear hW0
  have HB := Lib.hid bW
  clear bW
  refine wp_loop_rounds 5 ?_
  rw [rounds_succ]
  have a0 : W0.cell? ⟨w.heap.size, 0, none⟩ = some (.int .i64 d0.k) := blk_cell kA rfl
  have a1 : W0.cell? ⟨w.heap.size, 1, none⟩ = some (.float .f32 d0.f0) := blk_cell kA rfl
  have a2 : W0.cell? ⟨w.heap.size, 2, none⟩ = some (.float .f32 d0.f1) := blk_cell kA rfl
  have a3 : W0.cell? ⟨w.heap.size, 3, none⟩ = some (.float .f32 d0.f2) := blk_cell kA rfl
  have a4 : W0.cell? ⟨w.heap.size, 4, none⟩ = some (.float .f32 d0.f3) := blk_cell kA rfl
  have a5 : W0.cell? ⟨w.heap.size, 5, none⟩ = some (.float .f32 d0.f4) := blk_cell kA rfl
  go_wp2_with fail
  refine (c_toFilter d0.k d0.f0 d0.f1 d0.f2 d0.f3 d0.f4 _).mono ?_
  rintro e w1 ⟨rfl, hb1⟩
  have zW1 : w.heap.size + 3 ≤ w1.heap.size := by have := hb1.size; (try simp at this); omega
  have kA1 : w1.heap[w.heap.size]? = some (.cells #[.int .i64 d0.k, .float .f32 d0.f0, .float .f32 d0.f1, .float .f32 d0.f2, .float .f32 d0.f3, .float .f32 d0.f4, .int .i64 d1.k, .float .f32 d1.f0, .float .f32 d1.f1, .float .f32 d1.f2, .float .f32 d1.f3, .float .f32 d1.f4, .int .i64 d2.k, .float .f32 d2.f0, .float .f32 d2.f1, .float .f32 d2.f2, .float .f32 d2.f3, .float .f32 d2.f4, .int .i64 d3.k, .float .f32 d3.f0, .float .f32 d3.f1, .float .f32 d3.f2, .float .f32 d3.f3, .float .f32 d3.f4] 75) := (hb1.block (w.heap.size) (by first | omega | (simp; omega))).trans kA
  have kR1 : w1.heap[w.heap.size + 1]? = some (.cells #[.int .i64 0, .float .f32 0, .float .f32 0, .float .f32 0, .float .f32 0, .float .f32 0, .int .i64 0, .float .f32 0, .float .f32 0, .float .f32 0, .float .f32 0, .float .f32 0, .int .i64 0, .float .f32 0, .float .f32 0, .float .f32 0, .float .f32 0, .float .f32 0, .int .i64 0, .float .f32 0, .float .f32 0, .float .f32 0, .float .f32 0, .float .f32 0] 48) := (hb1.block (w.heap.size + 1) (by first | omega | (simp; omega))).trans kR
  have kB1 : w1.heap[w.heap.size + 1 + 1]? = some (.cells #[.int .i64 0, .float .f32 0, .float .f32 0, .float .f32 0, .float .f32 0, .float .f32 0, .int .i64 0, .float .f32 0, .float .f32 0, .float .f32 0, .float .f32 0, .float .f32 0, .int .i64 0, .float .f32 0, .float .f32 0, .float .f32 0, .float .f32 0, .float .f32 0, .int .i64 0, .float .f32 0, .float .f32 0, .float .f32 0, .float .f32 0, .float .f32 0] 48) := hb1.block (w.heap.size + 1 + 1) (by first | omega | (simp; omega)) |>.trans kB
  have HB1 := Lib.hid (Below.trans HB.out (hb1.mono (by first | omega | (simp; omega))))
  clear a0 a1 a2 a3 a4 a5
  clear kA kR kB hb1 HB zW
  have kA := kA1
  have kR := kR1
  have kB := kB1
  have HB := HB1
  have zW := zW1
  clear kA1 kR1 kB1 HB1 zW1
  have b0 : w1.cell? ⟨w.heap.size + 1 + 1, 0, none⟩ = some (.int .i64 0) := blk_cell kB rfl
  have b1 : w1.cell? ⟨w.heap.size + 1 + 1, 1, none⟩ = some (.float .f32 0) := blk_cell kB rfl
  have b2 : w1.cell? ⟨w.heap.size + 1 + 1, 2, none⟩ = some (.float .f32 0) := blk_cell kB rfl
  have b3 : w1.cell? ⟨w.heap.size + 1 + 1, 3, none⟩ = some (.float .f32 0) := blk_cell kB rfl
  have b4 : w1.cell? ⟨w.heap.size + 1 + 1, 4, none⟩ = some (.float .f32 0) := blk_cell kB rfl
  have b5 : w1.cell? ⟨w.heap.size + 1 + 1, 5, none⟩ = some (.float .f32 0) := blk_cell kB rfl
  have u0 : w1.frozen? ⟨w.heap.size + 1 + 1, 0, none⟩ = false := blk_free kB 0
  have u1 : w1.frozen? ⟨w.heap.size + 1 + 1, 1, none⟩ = false := blk_free kB 1
  have u2 : w1.frozen? ⟨w.heap.size + 1 + 1, 2, none⟩ = false := blk_free kB 2
  have u3 : w1.frozen? ⟨w.heap.size + 1 + 1, 3, none⟩ = false := blk_free kB 3
  have u4 : w1.frozen? ⟨w.heap.size + 1 + 1, 4, none⟩ = false := blk_free kB 4
  have u5 : w1.frozen? ⟨w.heap.size + 1 + 1, 5, none⟩ = false := blk_free kB 5
  go_wp2
  clear b0 b1 b2 b3 b4 b5 u0 u1 u2 u3 u4 u5
  generalize hV10 : ((((((((((((w1).setCell ⟨w.heap.size + 1 + 1, 0, none⟩ (.int .i64 d0.k))).setCell ⟨w.heap.size + 1 + 1, 1, none⟩ (.float .f32 d0.f0))).setCell ⟨w.heap.size + 1 + 1, 2, none⟩ (.float .f32 d0.f1))).setCell ⟨w.heap.size + 1 + 1, 3, none⟩ (.float .f32 d0.f2))).setCell ⟨w.heap.size + 1 + 1, 4, none⟩ (.float .f32 d0.f3))).setCell ⟨w.heap.size + 1 + 1, 5, none⟩ (.float .f32 d0.f4)) = V1
  have hV1 := hV10.symm
  clear hV10
  have kB1 : V1.heap[w.heap.size + 1 + 1]? = some (.cells #[.int .i64 d0.k, .float .f32 d0.f0, .float .f32 d0.f1, .float .f32 d0.f2, .float .f32 d0.f3, .float .f32 d0.f4, .int .i64 0, .float .f32 0, .float .f32 0, .float .f32 0, .float .f32 0, .float .f32 0, .int .i64 0, .float .f32 0, .float .f32 0, .float .f32 0, .float .f32 0, .float .f32 0, .int .i64 0, .float .f32 0, .float .f32 0, .float .f32 0, .float .f32 0, .float .f32 0] 48) := by
    rw [hV1, show (#[.int .i64 d0.k, .float .f32 d0.f0, .float .f32 d0.f1, .float .f32 d0.f2, .float .f32 d0.f3, .float .f32 d0.f4, .int .i64 0, .float .f32 0, .float .f32 0, .float .f32 0, .float .f32 0, .float .f32 0, .int .i64 0, .float .f32 0, .float .f32 0, .float .f32 0, .float .f32 0, .float .f32 0, .int .i64 0, .float .f32 0, .float .f32 0, .float .f32 0, .float .f32 0, .float .f32 0] : Array Value) = ((((((#[.int .i64 0, .float .f32 0, .float .f32 0, .float .f32 0, .float .f32 0, .float .f32 0, .int .i64 0, .float .f32 0, .float .f32 0, .float .f32 0, .float .f32 0, .float .f32 0, .int .i64 0, .float .f32 0, .float .f32 0, .float .f32 0, .float .f32 0, .float .f32 0, .int .i64 0, .float .f32 0, .float .f32 0, .float .f32 0, .float .f32 0, .float .f32 0]).setIfInBounds 0 (.int .i64 d0.k)).setIfInBounds 1 (.float .f32 d0.f0)).setIfInBounds 2 (.float .f32 d0.f1)).setIfInBounds 3 (.float .f32 d0.f2)).setIfInBounds 4 (.float .f32 d0.f3)).setIfInBounds 5 (.float .f32 d0.f4) by kernel_rfl]
    exact (blk_set_cs (blk_set_cs (blk_set_cs (blk_set_cs (blk_set_cs (blk_set_cs kB _ _) _ _) _ _) _ _) _ _) _ _)
  have kA1 : V1.heap[w.heap.size]? = some (.cells #[.int .i64 d0.k, .float .f32 d0.f0, .float .f32 d0.f1, .float .f32 d0.f2, .float .f32 d0.f3, .float .f32 d0.f4, .int .i64 d1.k, .float .f32 d1.f0, .float .f32 d1.f1, .float .f32 d1.f2, .float .f32 d1.f3, .float .f32 d1.f4, .int .i64 d2.k, .float .f32 d2.f0, .float .f32 d2.f1, .float .f32 d2.f2, .float .f32 d2.f3, .float .f32 d2.f4, .int .i64 d3.k, .float .f32 d3.f0, .float .f32 d3.f1, .float .f32 d3.f2, .float .f32 d3.f3, .float .f32 d3.f4] 75) := by rw [hV1]; exact ((Below.heap_setCell _ _ _ _ (show w.heap.size ≠ w.heap.size + 1 + 1 by omega)).trans ((Below.heap_setCell _ _ _ _ (show w.heap.size ≠ w.heap.size + 1 + 1 by omega)).trans ((Below.heap_setCell _ _ _ _ (show w.heap.size ≠ w.heap.size + 1 + 1 by omega)).trans ((Below.heap_setCell _ _ _ _ (show w.heap.size ≠ w.heap.size + 1 + 1 by omega)).trans ((Below.heap_setCell _ _ _ _ (show w.heap.size ≠ w.heap.size + 1 + 1 by omega)).trans (Below.heap_setCell _ _ _ _ (show w.heap.size ≠ w.heap.size + 1 + 1 by omega))))))).trans kA
  have kR1 : V1.heap[w.heap.size + 1]? = some (.cells #[.int .i64 0, .float .f32 0, .float .f32 0, .float .f32 0, .float .f32 0, .float .f32 0, .int .i64 0, .float .f32 0, .float .f32 0, .float .f32 0, .float .f32 0, .float .f32 0, .int .i64 0, .float .f32 0, .float .f32 0, .float .f32 0, .float .f32 0, .float .f32 0, .int .i64 0, .float .f32 0, .float .f32 0, .float .f32 0, .float .f32 0, .float .f32 0] 48) := by rw [hV1]; exact ((Below.heap_setCell _ _ _ _ (show w.heap.size + 1 ≠ w.heap.size + 1 + 1 by omega)).trans ((Below.heap_setCell _ _ _ _ (show w.heap.size + 1 ≠ w.heap.size + 1 + 1 by omega)).trans ((Below.heap_setCell _ _ _ _ (show w.heap.size + 1 ≠ w.heap.size + 1 + 1 by omega)).trans ((Below.heap_setCell _ _ _ _ (show w.heap.size + 1 ≠ w.heap.size + 1 + 1 by omega)).trans ((Below.heap_setCell _ _ _ _ (show w.heap.size + 1 ≠ w.heap.size + 1 + 1 by omega)).trans (Below.heap_setCell _ _ _ _ (show w.heap.size + 1 ≠ w.heap.size + 1 + 1 by omega))))))).trans kR
  have zW1 : w.heap.size + 3 ≤ V1.heap.size := by rw [hV1]; simp; omega
  have zV1 : w1.heap.size ≤ V1.heap.size := by rw [hV1]; simp
  have HB1 : Hid (Below w.heap.size w V1) := by
    have hbx := HB.out
    show Below _ _ _
    rw [hV1]
    (repeat (first | (with_reducible refine Below.drewN ?_) | (with_reducible refine Below.drew ?_) | ((with_reducible refine Below.alloc ?_ ?_ _); rotate_left; (first | omega | (simp <;> omega))) | ((with_reducible refine Below.setCell ?_ ?_ _); rotate_left; (first | omega | (simp <;> omega))) | (with_reducible exact Below.refl _ _) | (with_reducible assumption)))
  clear hV1 kA kR kB HB zW zV1
  have kA := kA1
  have kR := kR1
  have kB := kB1
  have HB := HB1
  have zW := zW1
  clear kA1 kR1 kB1 HB1 zW1
  rw [rounds_succ]
  have a6 : V1.cell? ⟨w.heap.size, 6, none⟩ = some (.int .i64 d1.k) := blk_cell kA rfl
  have a7 : V1.cell? ⟨w.heap.size, 7, none⟩ = some (.float .f32 d1.f0) := blk_cell kA rfl
  have a8 : V1.cell? ⟨w.heap.size, 8, none⟩ = some (.float .f32 d1.f1) := blk_cell kA rfl
  have a9 : V1.cell? ⟨w.heap.size, 9, none⟩ = some (.float .f32 d1.f2) := blk_cell kA rfl
  have a10 : V1.cell? ⟨w.heap.size, 10, none⟩ = some (.float .f32 d1.f3) := blk_cell kA rfl
  have a11 : V1.cell? ⟨w.heap.size, 11, none⟩ = some (.float .f32 d1.f4) := blk_cell kA rfl
  go_wp2_with fail
  refine (c_toFilter d1.k d1.f0 d1.f1 d1.f2 d1.f3 d1.f4 _).mono ?_
  rintro e w2 ⟨rfl, hb2⟩
  have zW2 : w.heap.size + 3 ≤ w2.heap.size := by have := hb2.size; (try simp at this); omega
  have kA2 : w2.heap[w.heap.size]? = some (.cells #[.int .i64 d0.k, .float .f32 d0.f0, .float .f32 d0.f1, .float .f32 d0.f2, .float .f32 d0.f3, .float .f32 d0.f4, .int .i64 d1.k, .float .f32 d1.f0, .float .f32 d1.f1, .float .f32 d1.f2, .float .f32 d1.f3, .float .f32 d1.f4, .int .i64 d2.k, .float .f32 d2.f0, .float .f32 d2.f1, .float .f32 d2.f2, .float .f32 d2.f3, .float .f32 d2.f4, .int .i64 d3.k, .float .f32 d3.f0, .float .f32 d3.f1, .float .f32 d3.f2, .float .f32 d3.f3, .float .f32 d3.f4] 75) := (hb2.block (w.heap.size) (by first | omega | (simp; omega))).trans kA
  have kR2 : w2.heap[w.heap.size + 1]? = some (.cells #[.int .i64 0, .float .f32 0, .float .f32 0, .float .f32 0, .float .f32 0, .float .f32 0, .int .i64 0, .float .f32 0, .float .f32 0, .float .f32 0, .float .f32 0, .float .f32 0, .int .i64 0, .float .f32 0, .float .f32 0, .float .f32 0, .float .f32 0, .float .f32 0, .int .i64 0, .float .f32 0, .float .f32 0, .float .f32 0, .float .f32 0, .float .f32 0] 48) := (hb2.block (w.heap.size + 1) (by first | omega | (simp; omega))).trans kR
  have kB2 : w2.heap[w.heap.size + 1 + 1]? = some (.cells #[.int .i64 d0.k, .float .f32 d0.f0, .float .f32 d0.f1, .float .f32 d0.f2, .float .f32 d0.f3, .float .f32 d0.f4, .int .i64 0, .float .f32 0, .float .f32 0, .float .f32 0, .float .f32 0, .float .f32 0, .int .i64 0, .float .f32 0, .float .f32 0, .float .f32 0, .float .f32 0, .float .f32 0, .int .i64 0, .float .f32 0, .float .f32 0, .float .f32 0, .float .f32 0, .float .f32 0] 48) := hb2.block (w.heap.size + 1 + 1) (by first | omega | (simp; omega)) |>.trans kB
  have HB2 := Lib.hid (Below.trans HB.out (hb2.mono (by first | omega | (simp; omega))))
  clear a6 a7 a8 a9 a10 a11
  clear kA kR kB hb2 HB zW
  have kA := kA2
  have kR := kR2
  have kB := kB2
  have HB := HB2
  have zW := zW2
  clear kA2 kR2 kB2 HB2 zW2
  have b6 : w2.cell? ⟨w.heap.size + 1 + 1, 6, none⟩ = some (.int .i64 0) := blk_cell kB rfl
  have b7 : w2.cell? ⟨w.heap.size + 1 + 1, 7, none⟩ = some (.float .f32 0) := blk_cell kB rfl
  have b8 : w2.cell? ⟨w.heap.size + 1 + 1, 8, none⟩ = some (.float .f32 0) := blk_cell kB rfl
  have b9 : w2.cell? ⟨w.heap.size + 1 + 1, 9, none⟩ = some (.float .f32 0) := blk_cell kB rfl
  have b10 : w2.cell? ⟨w.heap.size + 1 + 1, 10, none⟩ = some (.float .f32 0) := blk_cell kB rfl
  have b11 : w2.cell? ⟨w.heap.size + 1 + 1, 11, none⟩ = some (.float .f32 0) := blk_cell kB rfl
  have u6 : w2.frozen? ⟨w.heap.size + 1 + 1, 6, none⟩ = false := blk_free kB 6
  have u7 : w2.frozen? ⟨w.heap.size + 1 + 1, 7, none⟩ = false := blk_free kB 7
  have u8 : w2.frozen? ⟨w.heap.size + 1 + 1, 8, none⟩ = false := blk_free kB 8
  have u9 : w2.frozen? ⟨w.heap.size + 1 + 1, 9, none⟩ = false := blk_free kB 9
  have u10 : w2.frozen? ⟨w.heap.size + 1 + 1, 10, none⟩ = false := blk_free kB 10
  have u11 : w2.frozen? ⟨w.heap.size + 1 + 1, 11, none⟩ = false := blk_free kB 11
  go_wp2
  clear b6 b7 b8 b9 b10 b11 u6 u7 u8 u9 u10 u11
  generalize hV20 : ((((((((((((w2).setCell ⟨w.heap.size + 1 + 1, 6, none⟩ (.int .i64 d1.k))).setCell ⟨w.heap.size + 1 + 1, 7, none⟩ (.float .f32 d1.f0))).setCell ⟨w.heap.size + 1 + 1, 8, none⟩ (.float .f32 d1.f1))).setCell ⟨w.heap.size + 1 + 1, 9, none⟩ (.float .f32 d1.f2))).setCell ⟨w.heap.size + 1 + 1, 10, none⟩ (.float .f32 d1.f3))).setCell ⟨w.heap.size + 1 + 1, 11, none⟩ (.float .f32 d1.f4)) = V2
  have hV2 := hV20.symm
  clear hV20
  have kB2 : V2.heap[w.heap.size + 1 + 1]? = some (.cells #[.int .i64 d0.k, .float .f32 d0.f0, .float .f32 d0.f1, .float .f32 d0.f2, .float .f32 d0.f3, .float .f32 d0.f4, .int .i64 d1.k, .float .f32 d1.f0, .float .f32 d1.f1, .float .f32 d1.f2, .float .f32 d1.f3, .float .f32 d1.f4, .int .i64 0, .float .f32 0, .float .f32 0, .float .f32 0, .float .f32 0, .float .f32 0, .int .i64 0, .float .f32 0, .float .f32 0, .float .f32 0, .float .f32 0, .float .f32 0] 48) := by
    rw [hV2, show (#[.int .i64 d0.k, .float .f32 d0.f0, .float .f32 d0.f1, .float .f32 d0.f2, .float .f32 d0.f3, .float .f32 d0.f4, .int .i64 d1.k, .float .f32 d1.f0, .float .f32 d1.f1, .float .f32 d1.f2, .float .f32 d1.f3, .float .f32 d1.f4, .int .i64 0, .float .f32 0, .float .f32 0, .float .f32 0, .float .f32 0, .float .f32 0, .int .i64 0, .float .f32 0, .float .f32 0, .float .f32 0, .float .f32 0, .float .f32 0] : Array Value) = ((((((#[.int .i64 d0.k, .float .f32 d0.f0, .float .f32 d0.f1, .float .f32 d0.f2, .float .f32 d0.f3, .float .f32 d0.f4, .int .i64 0, .float .f32 0, .float .f32 0, .float .f32 0, .float .f32 0, .float .f32 0, .int .i64 0, .float .f32 0, .float .f32 0, .float .f32 0, .float .f32 0, .float .f32 0, .int .i64 0, .float .f32 0, .float .f32 0, .float .f32 0, .float .f32 0, .float .f32 0]).setIfInBounds 6 (.int .i64 d1.k)).setIfInBounds 7 (.float .f32 d1.f0)).setIfInBounds 8 (.float .f32 d1.f1)).setIfInBounds 9 (.float .f32 d1.f2)).setIfInBounds 10 (.float .f32 d1.f3)).setIfInBounds 11 (.float .f32 d1.f4) by kernel_rfl]
    exact (blk_set_cs (blk_set_cs (blk_set_cs (blk_set_cs (blk_set_cs (blk_set_cs kB _ _) _ _) _ _) _ _) _ _) _ _)
  have kA2 : V2.heap[w.heap.size]? = some (.cells #[.int .i64 d0.k, .float .f32 d0.f0, .float .f32 d0.f1, .float .f32 d0.f2, .float .f32 d0.f3, .float .f32 d0.f4, .int .i64 d1.k, .float .f32 d1.f0, .float .f32 d1.f1, .float .f32 d1.f2, .float .f32 d1.f3, .float .f32 d1.f4, .int .i64 d2.k, .float .f32 d2.f0, .float .f32 d2.f1, .float .f32 d2.f2, .float .f32 d2.f3, .float .f32 d2.f4, .int .i64 d3.k, .float .f32 d3.f0, .float .f32 d3.f1, .float .f32 d3.f2, .float .f32 d3.f3, .float .f32 d3.f4] 75) := by rw [hV2]; exact ((Below.heap_setCell _ _ _ _ (show w.heap.size ≠ w.heap.size + 1 + 1 by omega)).trans ((Below.heap_setCell _ _ _ _ (show w.heap.size ≠ w.heap.size + 1 + 1 by omega)).trans ((Below.heap_setCell _ _ _ _ (show w.heap.size ≠ w.heap.size + 1 + 1 by omega)).trans ((Below.heap_setCell _ _ _ _ (show w.heap.size ≠ w.heap.size + 1 + 1 by omega)).trans ((Below.heap_setCell _ _ _ _ (show w.heap.size ≠ w.heap.size + 1 + 1 by omega)).trans (Below.heap_setCell _ _ _ _ (show w.heap.size ≠ w.heap.size + 1 + 1 by omega))))))).trans kA
  have kR2 : V2.heap[w.heap.size + 1]? = some (.cells #[.int .i64 0, .float .f32 0, .float .f32 0, .float .f32 0, .float .f32 0, .float .f32 0, .int .i64 0, .float .f32 0, .float .f32 0, .float .f32 0, .float .f32 0, .float .f32 0, .int .i64 0, .float .f32 0, .float .f32 0, .float .f32 0, .float .f32 0, .float .f32 0, .int .i64 0, .float .f32 0, .float .f32 0, .float .f32 0, .float .f32 0, .float .f32 0] 48) := by rw [hV2]; exact ((Below.heap_setCell _ _ _ _ (show w.heap.size + 1 ≠ w.heap.size + 1 + 1 by omega)).trans ((Below.heap_setCell _ _ _ _ (show w.heap.size + 1 ≠ w.heap.size + 1 + 1 by omega)).trans ((Below.heap_setCell _ _ _ _ (show w.heap.size + 1 ≠ w.heap.size + 1 + 1 by omega)).trans ((Below.heap_setCell _ _ _ _ (show w.heap.size + 1 ≠ w.heap.size + 1 + 1 by omega)).trans ((Below.heap_setCell _ _ _ _ (show w.heap.size + 1 ≠ w.heap.size + 1 + 1 by omega)).trans (Below.heap_setCell _ _ _ _ (show w.heap.size + 1 ≠ w.heap.size + 1 + 1 by omega))))))).trans kR
  have zW2 : w.heap.size + 3 ≤ V2.heap.size := by rw [hV2]; simp; omega
  have zV2 : w2.heap.size ≤ V2.heap.size := by rw [hV2]; simp
  have HB2 : Hid (Below w.heap.size w V2) := by
    have hbx := HB.out
    show Below _ _ _
    rw [hV2]
    (repeat (first | (with_reducible refine Below.drewN ?_) | (with_reducible refine Below.drew ?_) | ((with_reducible refine Below.alloc ?_ ?_ _); rotate_left; (first | omega | (simp <;> omega))) | ((with_reducible refine Below.setCell ?_ ?_ _); rotate_left; (first | omega | (simp <;> omega))) | (with_reducible exact Below.refl _ _) | (with_reducible assumption)))
  clear hV2 kA kR kB HB zW zV2
  have kA := kA2
  have kR := kR2
  have kB := kB2
  have HB := HB2
  have zW := zW2
  clear kA2 kR2 kB2 HB2 zW2
  rw [rounds_succ]
  have a12 : V2.cell? ⟨w.heap.size, 12, none⟩ = some (.int .i64 d2.k) := blk_cell kA rfl
  have a13 : V2.cell? ⟨w.heap.size, 13, none⟩ = some (.float .f32 d2.f0) := blk_cell kA rfl
  have a14 : V2.cell? ⟨w.heap.size, 14, none⟩ = some (.float .f32 d2.f1) := blk_cell kA rfl
  have a15 : V2.cell? ⟨w.heap.size, 15, none⟩ = some (.float .f32 d2.f2) := blk_cell kA rfl
  have a16 : V2.cell? ⟨w.heap.size, 16, none⟩ = some (.float .f32 d2.f3) := blk_cell kA rfl
  have a17 : V2.cell? ⟨w.heap.size, 17, none⟩ = some (.float .f32 d2.f4) := blk_cell kA rfl
  go_wp2_with fail
  refine (c_toFilter d2.k d2.f0 d2.f1 d2.f2 d2.f3 d2.f4 _).mono ?_
  rintro e w3 ⟨rfl, hb3⟩
  have zW3 : w.heap.size + 3 ≤ w3.heap.size := by have := hb3.size; (try simp at this); omega
  have kA3 : w3.heap[w.heap.size]? = some (.cells #[.int .i64 d0.k, .float .f32 d0.f0, .float .f32 d0.f1, .float .f32 d0.f2, .float .f32 d0.f3, .float .f32 d0.f4, .int .i64 d1.k, .float .f32 d1.f0, .float .f32 d1.f1, .float .f32 d1.f2, .float .f32 d1.f3, .float .f32 d1.f4, .int .i64 d2.k, .float .f32 d2.f0, .float .f32 d2.f1, .float .f32 d2.f2, .float .f32 d2.f3, .float .f32 d2.f4, .int .i64 d3.k, .float .f32 d3.f0, .float .f32 d3.f1, .float .f32 d3.f2, .float .f32 d3.f3, .float .f32 d3.f4] 75) := (hb3.block (w.heap.size) (by first | omega | (simp; omega))).trans kA
  have kR3 : w3.heap[w.heap.size + 1]? = some (.cells #[.int .i64 0, .float .f32 0, .float .f32 0, .float .f32 0, .float .f32 0, .float .f32 0, .int .i64 0, .float .f32 0, .float .f32 0, .float .f32 0, .float .f32 0, .float .f32 0, .int .i64 0, .float .f32 0, .float .f32 0, .float .f32 0, .float .f32 0, .float .f32 0, .int .i64 0, .float .f32 0, .float .f32 0, .float .f32 0, .float .f32 0, .float .f32 0] 48) := (hb3.block (w.heap.size + 1) (by first | omega | (simp; omega))).trans kR
  have kB3 : w3.heap[w.heap.size + 1 + 1]? = some (.cells #[.int .i64 d0.k, .float .f32 d0.f0, .float .f32 d0.f1, .float .f32 d0.f2, .float .f32 d0.f3, .float .f32 d0.f4, .int .i64 d1.k, .float .f32 d1.f0, .float .f32 d1.f1, .float .f32 d1.f2, .float .f32 d1.f3, .float .f32 d1.f4, .int .i64 0, .float .f32 0, .float .f32 0, .float .f32 0, .float .f32 0, .float .f32 0, .int .i64 0, .float .f32 0, .float .f32 0, .float .f32 0, .float .f32 0, .float .f32 0] 48) := hb3.block (w.heap.size + 1 + 1) (by first | omega | (simp; omega)) |>.trans kB
  have HB3 := Lib.hid (Below.trans HB.out (hb3.mono (by first | omega | (simp; omega))))
  clear a12 a13 a14 a15 a16 a17
  clear kA kR kB hb3 HB zW
  have kA := kA3
  have kR := kR3
  have kB := kB3
  have HB := HB3
  have zW := zW3
  clear kA3 kR3 kB3 HB3 zW3
  have b12 : w3.cell? ⟨w.heap.size + 1 + 1, 12, none⟩ = some (.int .i64 0) := blk_cell kB rfl
  have b13 : w3.cell? ⟨w.heap.size + 1 + 1, 13, none⟩ = some (.float .f32 0) := blk_cell kB rfl
  have b14 : w3.cell? ⟨w.heap.size + 1 + 1, 14, none⟩ = some (.float .f32 0) := blk_cell kB rfl
  have b15 : w3.cell? ⟨w.heap.size + 1 + 1, 15, none⟩ = some (.float .f32 0) := blk_cell kB rfl
  have b16 : w3.cell? ⟨w.heap.size + 1 + 1, 16, none⟩ = some (.float .f32 0) := blk_cell kB rfl
  have b17 : w3.cell? ⟨w.heap.size + 1 + 1, 17, none⟩ = some (.float .f32 0) := blk_cell kB rfl
  have u12 : w3.frozen? ⟨w.heap.size + 1 + 1, 12, none⟩ = false := blk_free kB 12
  have u13 : w3.frozen? ⟨w.heap.size + 1 + 1, 13, none⟩ = false := blk_free kB 13
  have u14 : w3.frozen? ⟨w.heap.size + 1 + 1, 14, none⟩ = false := blk_free kB 14
  have u15 : w3.frozen? ⟨w.heap.size + 1 + 1, 15, none⟩ = false := blk_free kB 15
  have u16 : w3.frozen? ⟨w.heap.size + 1 + 1, 16, none⟩ = false := blk_free kB 16
  have u17 : w3.frozen? ⟨w.heap.size + 1 + 1, 17, none⟩ = false := blk_free kB 17
  go_wp2
  clear b12 b13 b14 b15 b16 b17 u12 u13 u14 u15 u16 u17
  generalize hV30 : ((((((((((((w3).setCell ⟨w.heap.size + 1 + 1, 12, none⟩ (.int .i64 d2.k))).setCell ⟨w.heap.size + 1 + 1, 13, none⟩ (.float .f32 d2.f0))).setCell ⟨w.heap.size + 1 + 1, 14, none⟩ (.float .f32 d2.f1))).setCell ⟨w.heap.size + 1 + 1, 15, none⟩ (.float .f32 d2.f2))).setCell ⟨w.heap.size + 1 + 1, 16, none⟩ (.float .f32 d2.f3))).setCell ⟨w.heap.size + 1 + 1, 17, none⟩ (.float .f32 d2.f4)) = V3
  have hV3 := hV30.symm
  clear hV30
  have kB3 : V3.heap[w.heap.size + 1 + 1]? = some (.cells #[.int .i64 d0.k, .float .f32 d0.f0, .float .f32 d0.f1, .float .f32 d0.f2, .float .f32 d0.f3, .float .f32 d0.f4, .int .i64 d1.k, .float .f32 d1.f0, .float .f32 d1.f1, .float .f32 d1.f2, .float .f32 d1.f3, .float .f32 d1.f4, .int .i64 d2.k, .float .f32 d2.f0, .float .f32 d2.f1, .float .f32 d2.f2, .float .f32 d2.f3, .float .f32 d2.f4, .int .i64 0, .float .f32 0, .float .f32 0, .float .f32 0, .float .f32 0, .float .f32 0] 48) := by
    rw [hV3, show (#[.int .i64 d0.k, .float .f32 d0.f0, .float .f32 d0.f1, .float .f32 d0.f2, .float .f32 d0.f3, .float .f32 d0.f4, .int .i64 d1.k, .float .f32 d1.f0, .float .f32 d1.f1, .float .f32 d1.f2, .float .f32 d1.f3, .float .f32 d1.f4, .int .i64 d2.k, .float .f32 d2.f0, .float .f32 d2.f1, .float .f32 d2.f2, .float .f32 d2.f3, .float .f32 d2.f4, .int .i64 0, .float .f32 0, .float .f32 0, .float .f32 0, .float .f32 0, .float .f32 0] : Array Value) = ((((((#[.int .i64 d0.k, .float .f32 d0.f0, .float .f32 d0.f1, .float .f32 d0.f2, .float .f32 d0.f3, .float .f32 d0.f4, .int .i64 d1.k, .float .f32 d1.f0, .float .f32 d1.f1, .float .f32 d1.f2, .float .f32 d1.f3, .float .f32 d1.f4, .int .i64 0, .float .f32 0, .float .f32 0, .float .f32 0, .float .f32 0, .float .f32 0, .int .i64 0, .float .f32 0, .float .f32 0, .float .f32 0, .float .f32 0, .float .f32 0]).setIfInBounds 12 (.int .i64 d2.k)).setIfInBounds 13 (.float .f32 d2.f0)).setIfInBounds 14 (.float .f32 d2.f1)).setIfInBounds 15 (.float .f32 d2.f2)).setIfInBounds 16 (.float .f32 d2.f3)).setIfInBounds 17 (.float .f32 d2.f4) by kernel_rfl]
    exact (blk_set_cs (blk_set_cs (blk_set_cs (blk_set_cs (blk_set_cs (blk_set_cs kB _ _) _ _) _ _) _ _) _ _) _ _)
  have kA3 : V3.heap[w.heap.size]? = some (.cells #[.int .i64 d0.k, .float .f32 d0.f0, .float .f32 d0.f1, .float .f32 d0.f2, .float .f32 d0.f3, .float .f32 d0.f4, .int .i64 d1.k, .float .f32 d1.f0, .float .f32 d1.f1, .float .f32 d1.f2, .float .f32 d1.f3, .float .f32 d1.f4, .int .i64 d2.k, .float .f32 d2.f0, .float .f32 d2.f1, .float .f32 d2.f2, .float .f32 d2.f3, .float .f32 d2.f4, .int .i64 d3.k, .float .f32 d3.f0, .float .f32 d3.f1, .float .f32 d3.f2, .float .f32 d3.f3, .float .f32 d3.f4] 75) := by rw [hV3]; exact ((Below.heap_setCell _ _ _ _ (show w.heap.size ≠ w.heap.size + 1 + 1 by omega)).trans ((Below.heap_setCell _ _ _ _ (show w.heap.size ≠ w.heap.size + 1 + 1 by omega)).trans ((Below.heap_setCell _ _ _ _ (show w.heap.size ≠ w.heap.size + 1 + 1 by omega)).trans ((Below.heap_setCell _ _ _ _ (show w.heap.size ≠ w.heap.size + 1 + 1 by omega)).trans ((Below.heap_setCell _ _ _ _ (show w.heap.size ≠ w.heap.size + 1 + 1 by omega)).trans (Below.heap_setCell _ _ _ _ (show w.heap.size ≠ w.heap.size + 1 + 1 by omega))))))).trans kA
  have kR3 : V3.heap[w.heap.size + 1]? = some (.cells #[.int .i64 0, .float .f32 0, .float .f32 0, .float .f32 0, .float .f32 0, .float .f32 0, .int .i64 0, .float .f32 0, .float .f32 0, .float .f32 0, .float .f32 0, .float .f32 0, .int .i64 0, .float .f32 0, .float .f32 0, .float .f32 0, .float .f32 0, .float .f32 0, .int .i64 0, .float .f32 0, .float .f32 0, .float .f32 0, .float .f32 0, .float .f32 0] 48) := by rw [hV3]; exact ((Below.heap_setCell _ _ _ _ (show w.heap.size + 1 ≠ w.heap.size + 1 + 1 by omega)).trans ((Below.heap_setCell _ _ _ _ (show w.heap.size + 1 ≠ w.heap.size + 1 + 1 by omega)).trans ((Below.heap_setCell _ _ _ _ (show w.heap.size + 1 ≠ w.heap.size + 1 + 1 by omega)).trans ((Below.heap_setCell _ _ _ _ (show w.heap.size + 1 ≠ w.heap.size + 1 + 1 by omega)).trans ((Below.heap_setCell _ _ _ _ (show w.heap.size + 1 ≠ w.heap.size + 1 + 1 by omega)).trans (Below.heap_setCell _ _ _ _ (show w.heap.size + 1 ≠ w.heap.size + 1 + 1 by omega))))))).trans kR
  have zW3 : w.heap.size + 3 ≤ V3.heap.size := by rw [hV3]; simp; omega
  have zV3 : w3.heap.size ≤ V3.heap.size := by rw [hV3]; simp
  have HB3 : Hid (Below w.heap.size w V3) := by
    have hbx := HB.out
    show Below _ _ _
    rw [hV3]
    (repeat (first | (with_reducible refine Below.drewN ?_) | (with_reducible refine Below.drew ?_) | ((with_reducible refine Below.alloc ?_ ?_ _); rotate_left; (first | omega | (simp <;> omega))) | ((with_reducible refine Below.setCell ?_ ?_ _); rotate_left; (first | omega | (simp <;> omega))) | (with_reducible exact Below.refl _ _) | (with_reducible assumption)))
  clear hV3 kA kR kB HB zW zV3
  have kA := kA3
  have kR := kR3
  have kB := kB3
  have HB := HB3
  have zW := zW3
  clear kA3 kR3 kB3 HB3 zW3
  rw [rounds_succ]
  have a18 : V3.cell? ⟨w.heap.size, 18, none⟩ = some (.int .i64 d3.k) := blk_cell kA rfl
  have a19 : V3.cell? ⟨w.heap.size, 19, none⟩ = some (.float .f32 d3.f0) := blk_cell kA rfl
  have a20 : V3.cell? ⟨w.heap.size, 20, none⟩ = some (.float .f32 d3.f1) := blk_cell kA rfl
  have a21 : V3.cell? ⟨w.heap.size, 21, none⟩ = some (.float .f32 d3.f2) := blk_cell kA rfl
  have a22 : V3.cell? ⟨w.heap.size, 22, none⟩ = some (.float .f32 d3.f3) := blk_cell kA rfl
  have a23 : V3.cell? ⟨w.heap.size, 23, none⟩ = some (.float .f32 d3.f4) := blk_cell kA rfl
  go_wp2_with fail
  refine (c_toFilter d3.k d3.f0 d3.f1 d3.f2 d3.f3 d3.f4 _).mono ?_
  rintro e w4 ⟨rfl, hb4⟩
  have zW4 : w.heap.size + 3 ≤ w4.heap.size := by have := hb4.size; (try simp at this); omega
  have kA4 : w4.heap[w.heap.size]? = some (.cells #[.int .i64 d0.k, .float .f32 d0.f0, .float .f32 d0.f1, .float .f32 d0.f2, .float .f32 d0.f3, .float .f32 d0.f4, .int .i64 d1.k, .float .f32 d1.f0, .float .f32 d1.f1, .float .f32 d1.f2, .float .f32 d1.f3, .float .f32 d1.f4, .int .i64 d2.k, .float .f32 d2.f0, .float .f32 d2.f1, .float .f32 d2.f2, .float .f32 d2.f3, .float .f32 d2.f4, .int .i64 d3.k, .float .f32 d3.f0, .float .f32 d3.f1, .float .f32 d3.f2, .float .f32 d3.f3, .float .f32 d3.f4] 75) := (hb4.block (w.heap.size) (by first | omega | (simp; omega))).trans kA
  have kR4 : w4.heap[w.heap.size + 1]? = some (.cells #[.int .i64 0, .float .f32 0, .float .f32 0, .float .f32 0, .float .f32 0, .float .f32 0, .int .i64 0, .float .f32 0, .float .f32 0, .float .f32 0, .float .f32 0, .float .f32 0, .int .i64 0, .float .f32 0, .float .f32 0, .float .f32 0, .float .f32 0, .float .f32 0, .int .i64 0, .float .f32 0, .float .f32 0, .float .f32 0, .float .f32 0, .float .f32 0] 48) := (hb4.block (w.heap.size + 1) (by first | omega | (simp; omega))).trans kR
  have kB4 : w4.heap[w.heap.size + 1 + 1]? = some (.cells #[.int .i64 d0.k, .float .f32 d0.f0, .float .f32 d0.f1, .float .f32 d0.f2, .float .f32 d0.f3, .float .f32 d0.f4, .int .i64 d1.k, .float .f32 d1.f0, .float .f32 d1.f1, .float .f32 d1.f2, .float .f32 d1.f3, .float .f32 d1.f4, .int .i64 d2.k, .float .f32 d2.f0, .float .f32 d2.f1, .float .f32 d2.f2, .float .f32 d2.f3, .float .f32 d2.f4, .int .i64 0, .float .f32 0, .float .f32 0, .float .f32 0, .float .f32 0, .float .f32 0] 48) := hb4.block (w.heap.size + 1 + 1) (by first | omega | (simp; omega)) |>.trans kB
  have HB4 := Lib.hid (Below.trans HB.out (hb4.mono (by first | omega | (simp; omega))))
  clear a18 a19 a20 a21 a22 a23
  clear kA kR kB hb4 HB zW
  have kA := kA4
  have kR := kR4
  have kB := kB4
  have HB := HB4
  have zW := zW4
  clear kA4 kR4 kB4 HB4 zW4
  have b18 : w4.cell? ⟨w.heap.size + 1 + 1, 18, none⟩ = some (.int .i64 0) := blk_cell kB rfl
  have b19 : w4.cell? ⟨w.heap.size + 1 + 1, 19, none⟩ = some (.float .f32 0) := blk_cell kB rfl
  have b20 : w4.cell? ⟨w.heap.size + 1 + 1, 20, none⟩ = some (.float .f32 0) := blk_cell kB rfl
  have b21 : w4.cell? ⟨w.heap.size + 1 + 1, 21, none⟩ = some (.float .f32 0) := blk_cell kB rfl
  have b22 : w4.cell? ⟨w.heap.size + 1 + 1, 22, none⟩ = some (.float .f32 0) := blk_cell kB rfl
  have b23 : w4.cell? ⟨w.heap.size + 1 + 1, 23, none⟩ = some (.float .f32 0) := blk_cell kB rfl
  have u18 : w4.frozen? ⟨w.heap.size + 1 + 1, 18, none⟩ = false := blk_free kB 18
  have u19 : w4.frozen? ⟨w.heap.size + 1 + 1, 19, none⟩ = false := blk_free kB 19
  have u20 : w4.frozen? ⟨w.heap.size + 1 + 1, 20, none⟩ = false := blk_free kB 20
  have u21 : w4.frozen? ⟨w.heap.size + 1 + 1, 21, none⟩ = false := blk_free kB 21
  have u22 : w4.frozen? ⟨w.heap.size + 1 + 1, 22, none⟩ = false := blk_free kB 22
  have u23 : w4.frozen? ⟨w.heap.size + 1 + 1, 23, none⟩ = false := blk_free kB 23
  go_wp2
  clear b18 b19 b20 b21 b22 b23 u18 u19 u20 u21 u22 u23
  generalize hV40 : ((((((((((((w4).setCell ⟨w.heap.size + 1 + 1, 18, none⟩ (.int .i64 d3.k))).setCell ⟨w.heap.size + 1 + 1, 19, none⟩ (.float .f32 d3.f0))).setCell ⟨w.heap.size + 1 + 1, 20, none⟩ (.float .f32 d3.f1))).setCell ⟨w.heap.size + 1 + 1, 21, none⟩ (.float .f32 d3.f2))).setCell ⟨w.heap.size + 1 + 1, 22, none⟩ (.float .f32 d3.f3))).setCell ⟨w.heap.size + 1 + 1, 23, none⟩ (.float .f32 d3.f4)) = V4
  have hV4 := hV40.symm
  clear hV40
  have kB4 : V4.heap[w.heap.size + 1 + 1]? = some (.cells #[.int .i64 d0.k, .float .f32 d0.f0, .float .f32 d0.f1, .float .f32 d0.f2, .float .f32 d0.f3, .float .f32 d0.f4, .int .i64 d1.k, .float .f32 d1.f0, .float .f32 d1.f1, .float .f32 d1.f2, .float .f32 d1.f3, .float .f32 d1.f4, .int .i64 d2.k, .float .f32 d2.f0, .float .f32 d2.f1, .float .f32 d2.f2, .float .f32 d2.f3, .float .f32 d2.f4, .int .i64 d3.k, .float .f32 d3.f0, .float .f32 d3.f1, .float .f32 d3.f2, .float .f32 d3.f3, .float .f32 d3.f4] 48) := by
    rw [hV4, show (#[.int .i64 d0.k, .float .f32 d0.f0, .float .f32 d0.f1, .float .f32 d0.f2, .float .f32 d0.f3, .float .f32 d0.f4, .int .i64 d1.k, .float .f32 d1.f0, .float .f32 d1.f1, .float .f32 d1.f2, .float .f32 d1.f3, .float .f32 d1.f4, .int .i64 d2.k, .float .f32 d2.f0, .float .f32 d2.f1, .float .f32 d2.f2, .float .f32 d2.f3, .float .f32 d2.f4, .int .i64 d3.k, .float .f32 d3.f0, .float .f32 d3.f1, .float .f32 d3.f2, .float .f32 d3.f3, .float .f32 d3.f4] : Array Value) = ((((((#[.int .i64 d0.k, .float .f32 d0.f0, .float .f32 d0.f1, .float .f32 d0.f2, .float .f32 d0.f3, .float .f32 d0.f4, .int .i64 d1.k, .float .f32 d1.f0, .float .f32 d1.f1, .float .f32 d1.f2, .float .f32 d1.f3, .float .f32 d1.f4, .int .i64 d2.k, .float .f32 d2.f0, .float .f32 d2.f1, .float .f32 d2.f2, .float .f32 d2.f3, .float .f32 d2.f4, .int .i64 0, .float .f32 0, .float .f32 0, .float .f32 0, .float .f32 0, .float .f32 0]).setIfInBounds 18 (.int .i64 d3.k)).setIfInBounds 19 (.float .f32 d3.f0)).setIfInBounds 20 (.float .f32 d3.f1)).setIfInBounds 21 (.float .f32 d3.f2)).setIfInBounds 22 (.float .f32 d3.f3)).setIfInBounds 23 (.float .f32 d3.f4) by kernel_rfl]
    exact (blk_set_cs (blk_set_cs (blk_set_cs (blk_set_cs (blk_set_cs (blk_set_cs kB _ _) _ _) _ _) _ _) _ _) _ _)
  have kA4 : V4.heap[w.heap.size]? = some (.cells #[.int .i64 d0.k, .float .f32 d0.f0, .float .f32 d0.f1, .float .f32 d0.f2, .float .f32 d0.f3, .float .f32 d0.f4, .int .i64 d1.k, .float .f32 d1.f0, .float .f32 d1.f1, .float .f32 d1.f2, .float .f32 d1.f3, .float .f32 d1.f4, .int .i64 d2.k, .float .f32 d2.f0, .float .f32 d2.f1, .float .f32 d2.f2, .float .f32 d2.f3, .float .f32 d2.f4, .int .i64 d3.k, .float .f32 d3.f0, .float .f32 d3.f1, .float .f32 d3.f2, .float .f32 d3.f3, .float .f32 d3.f4] 75) := by rw [hV4]; exact ((Below.heap_setCell _ _ _ _ (show w.heap.size ≠ w.heap.size + 1 + 1 by omega)).trans ((Below.heap_setCell _ _ _ _ (show w.heap.size ≠ w.heap.size + 1 + 1 by omega)).trans ((Below.heap_setCell _ _ _ _ (show w.heap.size ≠ w.heap.size + 1 + 1 by omega)).trans ((Below.heap_setCell _ _ _ _ (show w.heap.size ≠ w.heap.size + 1 + 1 by omega)).trans ((Below.heap_setCell _ _ _ _ (show w.heap.size ≠ w.heap.size + 1 + 1 by omega)).trans (Below.heap_setCell _ _ _ _ (show w.heap.size ≠ w.heap.size + 1 + 1 by omega))))))).trans kA
  have kR4 : V4.heap[w.heap.size + 1]? = some (.cells #[.int .i64 0, .float .f32 0, .float .f32 0, .float .f32 0, .float .f32 0, .float .f32 0, .int .i64 0, .float .f32 0, .float .f32 0, .float .f32 0, .float .f32 0, .float .f32 0, .int .i64 0, .float .f32 0, .float .f32 0, .float .f32 0, .float .f32 0, .float .f32 0, .int .i64 0, .float .f32 0, .float .f32 0, .float .f32 0, .float .f32 0, .float .f32 0] 48) := by rw [hV4]; exact ((Below.heap_setCell _ _ _ _ (show w.heap.size + 1 ≠ w.heap.size + 1 + 1 by omega)).trans ((Below.heap_setCell _ _ _ _ (show w.heap.size + 1 ≠ w.heap.size + 1 + 1 by omega)).trans ((Below.heap_setCell _ _ _ _ (show w.heap.size + 1 ≠ w.heap.size + 1 + 1 by omega)).trans ((Below.heap_setCell _ _ _ _ (show w.heap.size + 1 ≠ w.heap.size + 1 + 1 by omega)).trans ((Below.heap_setCell _ _ _ _ (show w.heap.size + 1 ≠ w.heap.size + 1 + 1 by omega)).trans (Below.heap_setCell _ _ _ _ (show w.heap.size + 1 ≠ w.heap.size + 1 + 1 by omega))))))).trans kR
  have zW4 : w.heap.size + 3 ≤ V4.heap.size := by rw [hV4]; simp; omega
  have zV4 : w4.heap.size ≤ V4.heap.size := by rw [hV4]; simp
  have HB4 : Hid (Below w.heap.size w V4) := by
    have hbx := HB.out
    show Below _ _ _
    rw [hV4]
    (repeat (first | (with_reducible refine Below.drewN ?_) | (with_reducible refine Below.drew ?_) | ((with_reducible refine Below.alloc ?_ ?_ _); rotate_left; (first | omega | (simp <;> omega))) | ((with_reducible refine Below.setCell ?_ ?_ _); rotate_left; (first | omega | (simp <;> omega))) | (with_reducible exact Below.refl _ _) | (with_reducible assumption)))
  clear hV4 kA kR kB HB zW zV4
  have kA := kA4
  have kR := kR4
  have kB := kB4
  have HB := HB4
  have zW := zW4
  clear kA4 kR4 kB4 HB4 zW4
  rw [rounds_succ]
  go_upto_region 6 with fail
  refine wp_named ?_
  intro W hW
  have kB1 : W.heap[w.heap.size + 1 + 1]? = some (.cells #[.int .i64 d0.k, .float .f32 d0.f0, .float .f32 d0.f1, .float .f32 d0.f2, .float .f32 d0.f3, .float .f32 d0.f4, .int .i64 d1.k, .float .f32 d1.f0, .float .f32 d1.f1, .float .f32 d1.f2, .float .f32 d1.f3, .float .f32 d1.f4, .int .i64 d2.k, .float .f32 d2.f0, .float .f32 d2.f1, .float .f32 d2.f2, .float .f32 d2.f3, .float .f32 d2.f4, .int .i64 d3.k, .float .f32 d3.f0, .float .f32 d3.f1, .float .f32 d3.f2, .float .f32 d3.f3, .float .f32 d3.f4] 48) := by rw [hW]; exact kB
  have kR1 : W.heap[w.heap.size + 1]? = some (.cells #[.int .i64 0, .float .f32 0, .float .f32 0, .float .f32 0, .float .f32 0, .float .f32 0, .int .i64 0, .float .f32 0, .float .f32 0, .float .f32 0, .float .f32 0, .float .f32 0, .int .i64 0, .float .f32 0, .float .f32 0, .float .f32 0, .float .f32 0, .float .f32 0, .int .i64 0, .float .f32 0, .float .f32 0, .float .f32 0, .float .f32 0, .float .f32 0] 48) := by rw [hW]; exact kR
  have BW : Below w.heap.size w W := by
    have hbx := HB.out
    rw [hW]
    (repeat (first | (with_reducible refine Below.drewN ?_) | (with_reducible refine Below.drew ?_) | ((with_reducible refine Below.alloc ?_ ?_ _); rotate_left; (first | omega | (simp <;> omega))) | ((with_reducible refine Below.setCell ?_ ?_ _); rotate_left; (first | omega | (simp <;> omega))) | (with_reducible exact Below.refl _ _) | (with_reducible assumption)))
  have zV : V4.heap.size ≤ W.heap.size := by rw [hW]; simp
  clear hW kA kB kR HB
  obtain ⟨L, hL⟩ : ∃ L : List Value, L = [.int .i64 d0.k, .float .f32 d0.f0, .float .f32 d0.f1, .float .f32 d0.f2, .float .f32 d0.f3, .float .f32 d0.f4, .int .i64 d1.k, .float .f32 d1.f0, .float .f32 d1.f1, .float .f32 d1.f2, .float .f32 d1.f3, .float .f32 d1.f4, .int .i64 d2.k, .float .f32 d2.f0, .float .f32 d2.f1, .float .f32 d2.f2, .float .f32 d2.f3, .float .f32 d2.f4, .int .i64 d3.k, .float .f32 d3.f0, .float .f32 d3.f1, .float .f32 d3.f2, .float .f32 d3.f3, .float .f32 d3.f4] := ⟨_, rfl⟩
  have kB2 : W.heap[w.heap.size + 1 + 1]? = some (.cells L.toArray 48) := by rw [hL]; exact kB1
  have hlen : L.length = 24 := by rw [hL]; kernel_rfl
  have hone : L.toArray.all (·.oneCell') = true := by rw [hL]; kernel_rfl
  have HL := Lib.hid hL
  clear hL
  have RG : W.rangeAt (w.heap.size + 1 + 1) 0 L := range_of_blk kB2
  have TH0 : W.there (w.heap.size + 1) 0 (#[.int .i64 0, .float .f32 0, .float .f32 0, .float .f32 0, .float .f32 0, .float .f32 0, .int .i64 0, .float .f32 0, .float .f32 0, .float .f32 0, .float .f32 0, .float .f32 0, .int .i64 0, .float .f32 0, .float .f32 0, .float .f32 0, .float .f32 0, .float .f32 0, .int .i64 0, .float .f32 0, .float .f32 0, .float .f32 0, .float .f32 0, .float .f32 0] : Array Value).size := there_of_blk kR1
  have TH : W.there (w.heap.size + 1) 0 L.length := by rw [hlen, ← show (#[.int .i64 0, .float .f32 0, .float .f32 0, .float .f32 0, .float .f32 0, .float .f32 0, .int .i64 0, .float .f32 0, .float .f32 0, .float .f32 0, .float .f32 0, .float .f32 0, .int .i64 0, .float .f32 0, .float .f32 0, .float .f32 0, .float .f32 0, .float .f32 0, .int .i64 0, .float .f32 0, .float .f32 0, .float .f32 0, .float .f32 0, .float .f32 0] : Array Value).size = 24 by kernel_rfl]; exact TH0
  have TS2 : W.there (w.heap.size + 1) 0 L.toArray.size := by rw [List.size_toArray]; exact TH
  have hR := Lib.hid (run_loadVar_mid (P := Try.prog) (W.setCells (w.heap.size + 1) 0 L) (w.heap.size + 1) 0 48 L _ (World.rangeAt_setCells_same _ _ _ _ TH) Try.underlying48 rfl (by rw [hlen]; kernel_rfl))
  have WR := wr_setCells (w.heap.size + 1) L 0 W
  clear kB1 kR1 kB2 TH0 TH
  have hi1 : (Try.prog.info? 48).map (·.size) = some L.length := by rw [hlen]; kernel_rfl
  have hi2 : (Try.prog.info? 48).map (·.size) = some L.toArray.size := by rw [List.size_toArray]; exact hi1
  refine wp_region_lit ?_
  refine wpList_load_mid rfl 48 _ rfl (w.heap.size + 1 + 1) 0 rfl L _ RG Try.underlying48 rfl hi1 ?_
  refine wpList_store_mid rfl 48 _ _ rfl (w.heap.size + 1) 0 L.toArray rfl rfl TS2 hi2 hone ?_
  clear hlen hone RG TS2 hi1 hi2
  go_wp2
  refine bodyPost_ret (v := .agg L.toArray) (results_cell Try.results103 rfl hR.out) rfl ?_
  have BE : Below w.heap.size w (W.setCells (w.heap.size + 1) 0 L) := BW.trans (WR.below (by have := BW.size; omega) (by simp))
  have hL := HL.out
  exact ⟨by rw [hL], BE⟩


end Go.Proofs.Ytfhegjjgfaeinaa
