
/-
Copies of rooms.
-/
import Derived.Test.YtfhegjjgfaeinaaYt
import Derived.Test.YtfhegjjgfaeinaaYm
namespace Go.Proofs.Ytfhegjjgfaeinaa
open Go Go.RowKit Fl
set_option maxRecDepth 100000 in
set_option maxHeartbeats 1600000 in
theorem c_toRoom (r : Rv) (w : World) (h : RvM w r) (hm : RvB r) :
    Calls Try.prog 35 #[.agg r.cells] w (fun e w' => ∃ s : Rv, e = .returned (.agg s.cells) ∧ Below w.heap.size w w' ∧ RvM w' s ∧ s.strip = r.strip) := by
  have H := Lib.hid h
  have M := Lib.hid hm
  clear h hm
  go_enter Try.func35, Try.ntmps35
  go_upto_region 2 with fail
  refine wp_named ?_
  intro W0 hW0
  have K := three_alloc w (.cells r.cells 77) (.cells #[.slice none 0 0, .int .i64 0, .slice none 0 0, .slice none 0 0, .int .i64 0, .float .f32 0, .slice none 0 0, .int .i64 0, .float .f32 0, .slice none 0 0, .int .i64 0, .slice none 0 0, .int .i64 0, .slice none 0 0, .int .i64 0, .slice none 0 0, .int .i64 0, .int .i64 0, .float .f32 0, .float .f32 0, .float .f32 0, .float .f32 0, .float .f32 0, .int .i64 0, .float .f32 0, .float .f32 0, .float .f32 0, .float .f32 0, .float .f32 0, .int .i64 0, .float .f32 0, .float .f32 0, .float .f32 0, .float .f32 0, .float .f32 0, .int .i64 0, .float .f32 0, .float .f32 0, .float .f32 0, .float .f32 0, .float .f32 0, .float .f32 0, .float .f32 0, .float .f32 0, .float .f32 0, .float .f32 0, .float .f32 0] 51) (.cells #[.slice none 0 0, .int .i64 0, .slice none 0 0, .slice none 0 0, .int .i64 0, .float .f32 0, .slice none 0 0, .int .i64 0, .float .f32 0, .slice none 0 0, .int .i64 0, .slice none 0 0, .int .i64 0, .slice none 0 0, .int .i64 0, .slice none 0 0, .int .i64 0, .int .i64 0, .float .f32 0, .float .f32 0, .float .f32 0, .float .f32 0, .float .f32 0, .int .i64 0, .float .f32 0, .float .f32 0, .float .f32 0, .float .f32 0, .float .f32 0, .int .i64 0, .float .f32 0, .float .f32 0, .float .f32 0, .float .f32 0, .float .f32 0, .int .i64 0, .float .f32 0, .float .f32 0, .float .f32 0, .float .f32 0, .float .f32 0, .float .f32 0, .float .f32 0, .float .f32 0, .float .f32 0, .float .f32 0, .float .f32 0] 51)
  rw [← hW0] at K
  obtain ⟨kA, kR, kB, zW, bW⟩ := K
  clear hW0
  have HB := Lib.hid bW
  clear bW
  have a0 : W0.cell? ⟨w.heap.size, 0, none⟩ = some (.slice r.e.a r.e.n r.e.c) := blk_cell kA rfl
  have a1 : W0.cell? ⟨w.heap.size, 1, none⟩ = some (.int .i64 r.e.i) := blk_cell kA rfl
  go_wp2_with fail
  refine (c_toRing' _ _ _ _ _ _ (FS.below (B := w.heap.size) (H.out.q0) HB.out (Nat.le_refl _)) M.out.m0).mono ?_
  rintro e w1 ⟨g0, rfl, hb1, lg0, gt0, of0⟩
  have zW1 : w.heap.size + 3 ≤ w1.heap.size := by have := hb1.size; (try simp at this); omega
  have kA1 : w1.heap[w.heap.size]? = some (.cells r.cells 77) := (hb1.block (w.heap.size) (by first | omega | (simp; omega))).trans kA
  have kR1 : w1.heap[w.heap.size + 1]? = some (.cells #[.slice none 0 0, .int .i64 0, .slice none 0 0, .slice none 0 0, .int .i64 0, .float .f32 0, .slice none 0 0, .int .i64 0, .float .f32 0, .slice none 0 0, .int .i64 0, .slice none 0 0, .int .i64 0, .slice none 0 0, .int .i64 0, .slice none 0 0, .int .i64 0, .int .i64 0, .float .f32 0, .float .f32 0, .float .f32 0, .float .f32 0, .float .f32 0, .int .i64 0, .float .f32 0, .float .f32 0, .float .f32 0, .float .f32 0, .float .f32 0, .int .i64 0, .float .f32 0, .float .f32 0, .float .f32 0, .float .f32 0, .float .f32 0, .int .i64 0, .float .f32 0, .float .f32 0, .float .f32 0, .float .f32 0, .float .f32 0, .float .f32 0, .float .f32 0, .float .f32 0, .float .f32 0, .float .f32 0, .float .f32 0] 51) := (hb1.block (w.heap.size + 1) (by first | omega | (simp; omega))).trans kR
  have kB1 : w1.heap[w.heap.size + 1 + 1]? = some (.cells #[.slice none 0 0, .int .i64 0, .slice none 0 0, .slice none 0 0, .int .i64 0, .float .f32 0, .slice none 0 0, .int .i64 0, .float .f32 0, .slice none 0 0, .int .i64 0, .slice none 0 0, .int .i64 0, .slice none 0 0, .int .i64 0, .slice none 0 0, .int .i64 0, .int .i64 0, .float .f32 0, .float .f32 0, .float .f32 0, .float .f32 0, .float .f32 0, .int .i64 0, .float .f32 0, .float .f32 0, .float .f32 0, .float .f32 0, .float .f32 0, .int .i64 0, .float .f32 0, .float .f32 0, .float .f32 0, .float .f32 0, .float .f32 0, .int .i64 0, .float .f32 0, .float .f32 0, .float .f32 0, .float .f32 0, .float .f32 0, .float .f32 0, .float .f32 0, .float .f32 0, .float .f32 0, .float .f32 0, .float .f32 0] 51) := hb1.block (w.heap.size + 1 + 1) (by first | omega | (simp; omega)) |>.trans kB
  have HB1 := Lib.hid (Below.trans HB.out (hb1.mono (by first | omega | (simp; omega))))
  have F0 := Lib.hid of0.fs
  clear of0
  have lo_g0 : w.heap.size + 3 ≤ g0 := by have := lg0; (try simp at this); omega
  clear a0 a1
  clear kA kR kB hb1 HB zW
  have kA := kA1
  have kR := kR1
  have kB := kB1
  have HB := HB1
  have zW := zW1
  clear kA1 kR1 kB1 HB1 zW1
  have b0 : w1.cell? ⟨w.heap.size + 1 + 1, 0, none⟩ = some (.slice none 0 0) := blk_cell kB rfl
  have b1 : w1.cell? ⟨w.heap.size + 1 + 1, 1, none⟩ = some (.int .i64 0) := blk_cell kB rfl
  have u0 : w1.frozen? ⟨w.heap.size + 1 + 1, 0, none⟩ = false := blk_free kB 0
  have u1 : w1.frozen? ⟨w.heap.size + 1 + 1, 1, none⟩ = false := blk_free kB 1
  go_upto_region 3 with fail
  clear b0 b1 u0 u1
  refine wp_named ?_
  intro V1 hV1
  have kB1 : V1.heap[w.heap.size + 1 + 1]? = some (.cells #[.slice (some ⟨g0, 0, none⟩) r.e.n r.e.n, .int .i64 r.e.i, .slice none 0 0, .slice none 0 0, .int .i64 0, .float .f32 0, .slice none 0 0, .int .i64 0, .float .f32 0, .slice none 0 0, .int .i64 0, .slice none 0 0, .int .i64 0, .slice none 0 0, .int .i64 0, .slice none 0 0, .int .i64 0, .int .i64 0, .float .f32 0, .float .f32 0, .float .f32 0, .float .f32 0, .float .f32 0, .int .i64 0, .float .f32 0, .float .f32 0, .float .f32 0, .float .f32 0, .float .f32 0, .int .i64 0, .float .f32 0, .float .f32 0, .float .f32 0, .float .f32 0, .float .f32 0, .int .i64 0, .float .f32 0, .float .f32 0, .float .f32 0, .float .f32 0, .float .f32 0, .float .f32 0, .float .f32 0, .float .f32 0, .float .f32 0, .float .f32 0, .float .f32 0] 51) := by
    rw [hV1, show (#[.slice (some ⟨g0, 0, none⟩) r.e.n r.e.n, .int .i64 r.e.i, .slice none 0 0, .slice none 0 0, .int .i64 0, .float .f32 0, .slice none 0 0, .int .i64 0, .float .f32 0, .slice none 0 0, .int .i64 0, .slice none 0 0, .int .i64 0, .slice none 0 0, .int .i64 0, .slice none 0 0, .int .i64 0, .int .i64 0, .float .f32 0, .float .f32 0, .float .f32 0, .float .f32 0, .float .f32 0, .int .i64 0, .float .f32 0, .float .f32 0, .float .f32 0, .float .f32 0, .float .f32 0, .int .i64 0, .float .f32 0, .float .f32 0, .float .f32 0, .float .f32 0, .float .f32 0, .int .i64 0, .float .f32 0, .float .f32 0, .float .f32 0, .float .f32 0, .float .f32 0, .float .f32 0, .float .f32 0, .float .f32 0, .float .f32 0, .float .f32 0, .float .f32 0] : Array Value) = ((#[.slice none 0 0, .int .i64 0, .slice none 0 0, .slice none 0 0, .int .i64 0, .float .f32 0, .slice none 0 0, .int .i64 0, .float .f32 0, .slice none 0 0, .int .i64 0, .slice none 0 0, .int .i64 0, .slice none 0 0, .int .i64 0, .slice none 0 0, .int .i64 0, .int .i64 0, .float .f32 0, .float .f32 0, .float .f32 0, .float .f32 0, .float .f32 0, .int .i64 0, .float .f32 0, .float .f32 0, .float .f32 0, .float .f32 0, .float .f32 0, .int .i64 0, .float .f32 0, .float .f32 0, .float .f32 0, .float .f32 0, .float .f32 0, .int .i64 0, .float .f32 0, .float .f32 0, .float .f32 0, .float .f32 0, .float .f32 0, .float .f32 0, .float .f32 0, .float .f32 0, .float .f32 0, .float .f32 0, .float .f32 0]).setIfInBounds 0 (.slice (some ⟨g0, 0, none⟩) r.e.n r.e.n)).setIfInBounds 1 (.int .i64 r.e.i) by kernel_rfl]
    exact (blk_set_cs (blk_set_cs kB _ _) _ _)
  have kA1 : V1.heap[w.heap.size]? = some (.cells r.cells 77) := by rw [hV1]; exact ((Below.heap_setCell _ _ _ _ (show w.heap.size ≠ w.heap.size + 1 + 1 by omega)).trans (Below.heap_setCell _ _ _ _ (show w.heap.size ≠ w.heap.size + 1 + 1 by omega))).trans kA
  have kR1 : V1.heap[w.heap.size + 1]? = some (.cells #[.slice none 0 0, .int .i64 0, .slice none 0 0, .slice none 0 0, .int .i64 0, .float .f32 0, .slice none 0 0, .int .i64 0, .float .f32 0, .slice none 0 0, .int .i64 0, .slice none 0 0, .int .i64 0, .slice none 0 0, .int .i64 0, .slice none 0 0, .int .i64 0, .int .i64 0, .float .f32 0, .float .f32 0, .float .f32 0, .float .f32 0, .float .f32 0, .int .i64 0, .float .f32 0, .float .f32 0, .float .f32 0, .float .f32 0, .float .f32 0, .int .i64 0, .float .f32 0, .float .f32 0, .float .f32 0, .float .f32 0, .float .f32 0, .int .i64 0, .float .f32 0, .float .f32 0, .float .f32 0, .float .f32 0, .float .f32 0, .float .f32 0, .float .f32 0, .float .f32 0, .float .f32 0, .float .f32 0, .float .f32 0] 51) := by rw [hV1]; exact ((Below.heap_setCell _ _ _ _ (show w.heap.size + 1 ≠ w.heap.size + 1 + 1 by omega)).trans (Below.heap_setCell _ _ _ _ (show w.heap.size + 1 ≠ w.heap.size + 1 + 1 by omega))).trans kR
  have zW1 : w.heap.size + 3 ≤ V1.heap.size := by rw [hV1]; simp; omega
  have zV1 : w1.heap.size ≤ V1.heap.size := by rw [hV1]; simp
  have HB1 : Hid (Below w.heap.size w V1) := by
    have hbx := HB.out
    show Below _ _ _
    rw [hV1]
    (repeat (first | (with_reducible refine Below.drewN ?_) | (with_reducible refine Below.drew ?_) | ((with_reducible refine Below.alloc ?_ ?_ _); rotate_left; (first | omega | (simp <;> omega))) | ((with_reducible refine Below.setCell ?_ ?_ _); rotate_left; (first | omega | (simp <;> omega))) | (with_reducible exact Below.refl _ _) | (with_reducible assumption)))
  have F0 := Lib.hid (F0.out.same2 zV1 (fun b o e hl => by cases e; rw [hV1]; exact ((Below.heap_setCell _ _ _ _ (show g0 ≠ w.heap.size + 1 + 1 by omega)).trans (Below.heap_setCell _ _ _ _ (show g0 ≠ w.heap.size + 1 + 1 by omega)))))
  clear hV1 kA kR kB HB zW zV1
  have kA := kA1
  have kR := kR1
  have kB := kB1
  have HB := HB1
  have zW := zW1
  clear kA1 kR1 kB1 HB1 zW1
  have a2 : V1.cell? ⟨w.heap.size, 2, none⟩ = some (.slice r.ta r.tn r.tc) := blk_cell kA rfl
  go_wp2_with fail
  refine (c_toTapS _ _ _ r.ts _ (TS.below (B := w.heap.size) H.out.t HB.out (Nat.le_refl _)) M.out.mt).mono ?_
  rintro e w2 ⟨gt, rfl, hb2, lgt, ft⟩
  have zW2 : w.heap.size + 3 ≤ w2.heap.size := by have := hb2.size; (try simp at this); omega
  have kA2 : w2.heap[w.heap.size]? = some (.cells r.cells 77) := (hb2.block (w.heap.size) (by first | omega | (simp; omega))).trans kA
  have kR2 : w2.heap[w.heap.size + 1]? = some (.cells #[.slice none 0 0, .int .i64 0, .slice none 0 0, .slice none 0 0, .int .i64 0, .float .f32 0, .slice none 0 0, .int .i64 0, .float .f32 0, .slice none 0 0, .int .i64 0, .slice none 0 0, .int .i64 0, .slice none 0 0, .int .i64 0, .slice none 0 0, .int .i64 0, .int .i64 0, .float .f32 0, .float .f32 0, .float .f32 0, .float .f32 0, .float .f32 0, .int .i64 0, .float .f32 0, .float .f32 0, .float .f32 0, .float .f32 0, .float .f32 0, .int .i64 0, .float .f32 0, .float .f32 0, .float .f32 0, .float .f32 0, .float .f32 0, .int .i64 0, .float .f32 0, .float .f32 0, .float .f32 0, .float .f32 0, .float .f32 0, .float .f32 0, .float .f32 0, .float .f32 0, .float .f32 0, .float .f32 0, .float .f32 0] 51) := (hb2.block (w.heap.size + 1) (by first | omega | (simp; omega))).trans kR
  have kB2 : w2.heap[w.heap.size + 1 + 1]? = some (.cells #[.slice (some ⟨g0, 0, none⟩) r.e.n r.e.n, .int .i64 r.e.i, .slice none 0 0, .slice none 0 0, .int .i64 0, .float .f32 0, .slice none 0 0, .int .i64 0, .float .f32 0, .slice none 0 0, .int .i64 0, .slice none 0 0, .int .i64 0, .slice none 0 0, .int .i64 0, .slice none 0 0, .int .i64 0, .int .i64 0, .float .f32 0, .float .f32 0, .float .f32 0, .float .f32 0, .float .f32 0, .int .i64 0, .float .f32 0, .float .f32 0, .float .f32 0, .float .f32 0, .float .f32 0, .int .i64 0, .float .f32 0, .float .f32 0, .float .f32 0, .float .f32 0, .float .f32 0, .int .i64 0, .float .f32 0, .float .f32 0, .float .f32 0, .float .f32 0, .float .f32 0, .float .f32 0, .float .f32 0, .float .f32 0, .float .f32 0, .float .f32 0, .float .f32 0] 51) := hb2.block (w.heap.size + 1 + 1) (by first | omega | (simp; omega)) |>.trans kB
  have HB2 := Lib.hid (Below.trans HB.out (hb2.mono (by first | omega | (simp; omega))))
  have F0 := Lib.hid (F0.out.same2 (by have := hb2.size; (try simp at this); omega) (fun b o e hl => by cases e; exact (hb2.block _ (by first | omega | (simp; omega)))))
  have Ft := Lib.hid ft
  clear ft
  have lo_gt : w.heap.size + 3 ≤ gt := by have := lgt; (try simp at this); omega
  clear a2
  clear kA kR kB hb2 HB zW
  have kA := kA2
  have kR := kR2
  have kB := kB2
  have HB := HB2
  have zW := zW2
  clear kA2 kR2 kB2 HB2 zW2
  have b2 : w2.cell? ⟨w.heap.size + 1 + 1, 2, none⟩ = some (.slice none 0 0) := blk_cell kB rfl
  have u2 : w2.frozen? ⟨w.heap.size + 1 + 1, 2, none⟩ = false := blk_free kB 2
  go_upto_region 4 with fail
  clear b2 u2
  refine wp_named ?_
  intro V2 hV2
  have kB2 : V2.heap[w.heap.size + 1 + 1]? = some (.cells #[.slice (some ⟨g0, 0, none⟩) r.e.n r.e.n, .int .i64 r.e.i, .slice (some ⟨gt, 0, none⟩) r.tn r.tn, .slice none 0 0, .int .i64 0, .float .f32 0, .slice none 0 0, .int .i64 0, .float .f32 0, .slice none 0 0, .int .i64 0, .slice none 0 0, .int .i64 0, .slice none 0 0, .int .i64 0, .slice none 0 0, .int .i64 0, .int .i64 0, .float .f32 0, .float .f32 0, .float .f32 0, .float .f32 0, .float .f32 0, .int .i64 0, .float .f32 0, .float .f32 0, .float .f32 0, .float .f32 0, .float .f32 0, .int .i64 0, .float .f32 0, .float .f32 0, .float .f32 0, .float .f32 0, .float .f32 0, .int .i64 0, .float .f32 0, .float .f32 0, .float .f32 0, .float .f32 0, .float .f32 0, .float .f32 0, .float .f32 0, .float .f32 0, .float .f32 0, .float .f32 0, .float .f32 0] 51) := by
    rw [hV2, show (#[.slice (some ⟨g0, 0, none⟩) r.e.n r.e.n, .int .i64 r.e.i, .slice (some ⟨gt, 0, none⟩) r.tn r.tn, .slice none 0 0, .int .i64 0, .float .f32 0, .slice none 0 0, .int .i64 0, .float .f32 0, .slice none 0 0, .int .i64 0, .slice none 0 0, .int .i64 0, .slice none 0 0, .int .i64 0, .slice none 0 0, .int .i64 0, .int .i64 0, .float .f32 0, .float .f32 0, .float .f32 0, .float .f32 0, .float .f32 0, .int .i64 0, .float .f32 0, .float .f32 0, .float .f32 0, .float .f32 0, .float .f32 0, .int .i64 0, .float .f32 0, .float .f32 0, .float .f32 0, .float .f32 0, .float .f32 0, .int .i64 0, .float .f32 0, .float .f32 0, .float .f32 0, .float .f32 0, .float .f32 0, .float .f32 0, .float .f32 0, .float .f32 0, .float .f32 0, .float .f32 0, .float .f32 0] : Array Value) = (#[.slice (some ⟨g0, 0, none⟩) r.e.n r.e.n, .int .i64 r.e.i, .slice none 0 0, .slice none 0 0, .int .i64 0, .float .f32 0, .slice none 0 0, .int .i64 0, .float .f32 0, .slice none 0 0, .int .i64 0, .slice none 0 0, .int .i64 0, .slice none 0 0, .int .i64 0, .slice none 0 0, .int .i64 0, .int .i64 0, .float .f32 0, .float .f32 0, .float .f32 0, .float .f32 0, .float .f32 0, .int .i64 0, .float .f32 0, .float .f32 0, .float .f32 0, .float .f32 0, .float .f32 0, .int .i64 0, .float .f32 0, .float .f32 0, .float .f32 0, .float .f32 0, .float .f32 0, .int .i64 0, .float .f32 0, .float .f32 0, .float .f32 0, .float .f32 0, .float .f32 0, .float .f32 0, .float .f32 0, .float .f32 0, .float .f32 0, .float .f32 0, .float .f32 0]).setIfInBounds 2 (.slice (some ⟨gt, 0, none⟩) r.tn r.tn) by kernel_rfl]
    exact (blk_set_cs kB _ _)
  have kA2 : V2.heap[w.heap.size]? = some (.cells r.cells 77) := by rw [hV2]; exact (Below.heap_setCell _ _ _ _ (show w.heap.size ≠ w.heap.size + 1 + 1 by omega)).trans kA
  have kR2 : V2.heap[w.heap.size + 1]? = some (.cells #[.slice none 0 0, .int .i64 0, .slice none 0 0, .slice none 0 0, .int .i64 0, .float .f32 0, .slice none 0 0, .int .i64 0, .float .f32 0, .slice none 0 0, .int .i64 0, .slice none 0 0, .int .i64 0, .slice none 0 0, .int .i64 0, .slice none 0 0, .int .i64 0, .int .i64 0, .float .f32 0, .float .f32 0, .float .f32 0, .float .f32 0, .float .f32 0, .int .i64 0, .float .f32 0, .float .f32 0, .float .f32 0, .float .f32 0, .float .f32 0, .int .i64 0, .float .f32 0, .float .f32 0, .float .f32 0, .float .f32 0, .float .f32 0, .int .i64 0, .float .f32 0, .float .f32 0, .float .f32 0, .float .f32 0, .float .f32 0, .float .f32 0, .float .f32 0, .float .f32 0, .float .f32 0, .float .f32 0, .float .f32 0] 51) := by rw [hV2]; exact (Below.heap_setCell _ _ _ _ (show w.heap.size + 1 ≠ w.heap.size + 1 + 1 by omega)).trans kR
  have zW2 : w.heap.size + 3 ≤ V2.heap.size := by rw [hV2]; simp; omega
  have zV2 : w2.heap.size ≤ V2.heap.size := by rw [hV2]; simp
  have HB2 : Hid (Below w.heap.size w V2) := by
    have hbx := HB.out
    show Below _ _ _
    rw [hV2]
    (repeat (first | (with_reducible refine Below.drewN ?_) | (with_reducible refine Below.drew ?_) | ((with_reducible refine Below.alloc ?_ ?_ _); rotate_left; (first | omega | (simp <;> omega))) | ((with_reducible refine Below.setCell ?_ ?_ _); rotate_left; (first | omega | (simp <;> omega))) | (with_reducible exact Below.refl _ _) | (with_reducible assumption)))
  have F0 := Lib.hid (F0.out.same2 zV2 (fun b o e hl => by cases e; rw [hV2]; exact (Below.heap_setCell _ _ _ _ (show g0 ≠ w.heap.size + 1 + 1 by omega))))
  have Ft := Lib.hid (Ft.out.same2 zV2 (fun b o e hl => by cases e; rw [hV2]; exact (Below.heap_setCell _ _ _ _ (show gt ≠ w.heap.size + 1 + 1 by omega))))
  clear hV2 kA kR kB HB zW zV2
  have kA := kA2
  have kR := kR2
  have kB := kB2
  have HB := HB2
  have zW := zW2
  clear kA2 kR2 kB2 HB2 zW2
  have a3 : V2.cell? ⟨w.heap.size, 3, none⟩ = some (.slice r.c0.a r.c0.n r.c0.c) := blk_cell kA rfl
  have a4 : V2.cell? ⟨w.heap.size, 4, none⟩ = some (.int .i64 r.c0.i) := blk_cell kA rfl
  have a5 : V2.cell? ⟨w.heap.size, 5, none⟩ = some (.float .f32 r.g0) := blk_cell kA rfl
  have a6 : V2.cell? ⟨w.heap.size, 6, none⟩ = some (.slice r.c1.a r.c1.n r.c1.c) := blk_cell kA rfl
  have a7 : V2.cell? ⟨w.heap.size, 7, none⟩ = some (.int .i64 r.c1.i) := blk_cell kA rfl
  have a8 : V2.cell? ⟨w.heap.size, 8, none⟩ = some (.float .f32 r.g1) := blk_cell kA rfl
  go_wp2_with fail
  refine (c_toCombA2 r.c0 r.c1 r.g0 r.g1 _ (FS.below (B := w.heap.size) (H.out.q1) HB.out (Nat.le_refl _)) M.out.m1 (FS.below (B := w.heap.size) (H.out.q2) HB.out (Nat.le_refl _)) M.out.m2).mono ?_
  rintro e w3 ⟨g1, g2, rfl, hb3, lg1, f1, lg2, f2⟩
  have zW3 : w.heap.size + 3 ≤ w3.heap.size := by have := hb3.size; (try simp at this); omega
  have kA3 : w3.heap[w.heap.size]? = some (.cells r.cells 77) := (hb3.block (w.heap.size) (by first | omega | (simp; omega))).trans kA
  have kR3 : w3.heap[w.heap.size + 1]? = some (.cells #[.slice none 0 0, .int .i64 0, .slice none 0 0, .slice none 0 0, .int .i64 0, .float .f32 0, .slice none 0 0, .int .i64 0, .float .f32 0, .slice none 0 0, .int .i64 0, .slice none 0 0, .int .i64 0, .slice none 0 0, .int .i64 0, .slice none 0 0, .int .i64 0, .int .i64 0, .float .f32 0, .float .f32 0, .float .f32 0, .float .f32 0, .float .f32 0, .int .i64 0, .float .f32 0, .float .f32 0, .float .f32 0, .float .f32 0, .float .f32 0, .int .i64 0, .float .f32 0, .float .f32 0, .float .f32 0, .float .f32 0, .float .f32 0, .int .i64 0, .float .f32 0, .float .f32 0, .float .f32 0, .float .f32 0, .float .f32 0, .float .f32 0, .float .f32 0, .float .f32 0, .float .f32 0, .float .f32 0, .float .f32 0] 51) := (hb3.block (w.heap.size + 1) (by first | omega | (simp; omega))).trans kR
  have kB3 : w3.heap[w.heap.size + 1 + 1]? = some (.cells #[.slice (some ⟨g0, 0, none⟩) r.e.n r.e.n, .int .i64 r.e.i, .slice (some ⟨gt, 0, none⟩) r.tn r.tn, .slice none 0 0, .int .i64 0, .float .f32 0, .slice none 0 0, .int .i64 0, .float .f32 0, .slice none 0 0, .int .i64 0, .slice none 0 0, .int .i64 0, .slice none 0 0, .int .i64 0, .slice none 0 0, .int .i64 0, .int .i64 0, .float .f32 0, .float .f32 0, .float .f32 0, .float .f32 0, .float .f32 0, .int .i64 0, .float .f32 0, .float .f32 0, .float .f32 0, .float .f32 0, .float .f32 0, .int .i64 0, .float .f32 0, .float .f32 0, .float .f32 0, .float .f32 0, .float .f32 0, .int .i64 0, .float .f32 0, .float .f32 0, .float .f32 0, .float .f32 0, .float .f32 0, .float .f32 0, .float .f32 0, .float .f32 0, .float .f32 0, .float .f32 0, .float .f32 0] 51) := hb3.block (w.heap.size + 1 + 1) (by first | omega | (simp; omega)) |>.trans kB
  have HB3 := Lib.hid (Below.trans HB.out (hb3.mono (by first | omega | (simp; omega))))
  have F0 := Lib.hid (F0.out.same2 (by have := hb3.size; (try simp at this); omega) (fun b o e hl => by cases e; exact (hb3.block _ (by first | omega | (simp; omega)))))
  have Ft := Lib.hid (Ft.out.same2 (by have := hb3.size; (try simp at this); omega) (fun b o e hl => by cases e; exact (hb3.block _ (by first | omega | (simp; omega)))))
  have F1 := Lib.hid f1
  clear f1
  have lo_g1 : w.heap.size + 3 ≤ g1 := by have := lg1; (try simp at this); omega
  have F2 := Lib.hid f2
  clear f2
  have lo_g2 : w.heap.size + 3 ≤ g2 := by have := lg2; (try simp at this); omega
  clear a3 a4 a5 a6 a7 a8
  clear kA kR kB hb3 HB zW
  have kA := kA3
  have kR := kR3
  have kB := kB3
  have HB := HB3
  have zW := zW3
  clear kA3 kR3 kB3 HB3 zW3
  have b3 : w3.cell? ⟨w.heap.size + 1 + 1, 3, none⟩ = some (.slice none 0 0) := blk_cell kB rfl
  have b4 : w3.cell? ⟨w.heap.size + 1 + 1, 4, none⟩ = some (.int .i64 0) := blk_cell kB rfl
  have b5 : w3.cell? ⟨w.heap.size + 1 + 1, 5, none⟩ = some (.float .f32 0) := blk_cell kB rfl
  have b6 : w3.cell? ⟨w.heap.size + 1 + 1, 6, none⟩ = some (.slice none 0 0) := blk_cell kB rfl
  have b7 : w3.cell? ⟨w.heap.size + 1 + 1, 7, none⟩ = some (.int .i64 0) := blk_cell kB rfl
  have b8 : w3.cell? ⟨w.heap.size + 1 + 1, 8, none⟩ = some (.float .f32 0) := blk_cell kB rfl
  have u3 : w3.frozen? ⟨w.heap.size + 1 + 1, 3, none⟩ = false := blk_free kB 3
  have u4 : w3.frozen? ⟨w.heap.size + 1 + 1, 4, none⟩ = false := blk_free kB 4
  have u5 : w3.frozen? ⟨w.heap.size + 1 + 1, 5, none⟩ = false := blk_free kB 5
  have u6 : w3.frozen? ⟨w.heap.size + 1 + 1, 6, none⟩ = false := blk_free kB 6
  have u7 : w3.frozen? ⟨w.heap.size + 1 + 1, 7, none⟩ = false := blk_free kB 7
  have u8 : w3.frozen? ⟨w.heap.size + 1 + 1, 8, none⟩ = false := blk_free kB 8
  go_upto_region 5 with fail
  clear b3 b4 b5 b6 b7 b8 u3 u4 u5 u6 u7 u8
  refine wp_named ?_
  intro V3 hV3
  have kB3 : V3.heap[w.heap.size + 1 + 1]? = some (.cells #[.slice (some ⟨g0, 0, none⟩) r.e.n r.e.n, .int .i64 r.e.i, .slice (some ⟨gt, 0, none⟩) r.tn r.tn, .slice (some ⟨g1, 0, none⟩) r.c0.n r.c0.n, .int .i64 r.c0.i, .float .f32 r.g0, .slice (some ⟨g2, 0, none⟩) r.c1.n r.c1.n, .int .i64 r.c1.i, .float .f32 r.g1, .slice none 0 0, .int .i64 0, .slice none 0 0, .int .i64 0, .slice none 0 0, .int .i64 0, .slice none 0 0, .int .i64 0, .int .i64 0, .float .f32 0, .float .f32 0, .float .f32 0, .float .f32 0, .float .f32 0, .int .i64 0, .float .f32 0, .float .f32 0, .float .f32 0, .float .f32 0, .float .f32 0, .int .i64 0, .float .f32 0, .float .f32 0, .float .f32 0, .float .f32 0, .float .f32 0, .int .i64 0, .float .f32 0, .float .f32 0, .float .f32 0, .float .f32 0, .float .f32 0, .float .f32 0, .float .f32 0, .float .f32 0, .float .f32 0, .float .f32 0, .float .f32 0] 51) := by
    rw [hV3, show (#[.slice (some ⟨g0, 0, none⟩) r.e.n r.e.n, .int .i64 r.e.i, .slice (some ⟨gt, 0, none⟩) r.tn r.tn, .slice (some ⟨g1, 0, none⟩) r.c0.n r.c0.n, .int .i64 r.c0.i, .float .f32 r.g0, .slice (some ⟨g2, 0, none⟩) r.c1.n r.c1.n, .int .i64 r.c1.i, .float .f32 r.g1, .slice none 0 0, .int .i64 0, .slice none 0 0, .int .i64 0, .slice none 0 0, .int .i64 0, .slice none 0 0, .int .i64 0, .int .i64 0, .float .f32 0, .float .f32 0, .float .f32 0, .float .f32 0, .float .f32 0, .int .i64 0, .float .f32 0, .float .f32 0, .float .f32 0, .float .f32 0, .float .f32 0, .int .i64 0, .float .f32 0, .float .f32 0, .float .f32 0, .float .f32 0, .float .f32 0, .int .i64 0, .float .f32 0, .float .f32 0, .float .f32 0, .float .f32 0, .float .f32 0, .float .f32 0, .float .f32 0, .float .f32 0, .float .f32 0, .float .f32 0, .float .f32 0] : Array Value) = ((((((#[.slice (some ⟨g0, 0, none⟩) r.e.n r.e.n, .int .i64 r.e.i, .slice (some ⟨gt, 0, none⟩) r.tn r.tn, .slice none 0 0, .int .i64 0, .float .f32 0, .slice none 0 0, .int .i64 0, .float .f32 0, .slice none 0 0, .int .i64 0, .slice none 0 0, .int .i64 0, .slice none 0 0, .int .i64 0, .slice none 0 0, .int .i64 0, .int .i64 0, .float .f32 0, .float .f32 0, .float .f32 0, .float .f32 0, .float .f32 0, .int .i64 0, .float .f32 0, .float .f32 0, .float .f32 0, .float .f32 0, .float .f32 0, .int .i64 0, .float .f32 0, .float .f32 0, .float .f32 0, .float .f32 0, .float .f32 0, .int .i64 0, .float .f32 0, .float .f32 0, .float .f32 0, .float .f32 0, .float .f32 0, .float .f32 0, .float .f32 0, .float .f32 0, .float .f32 0, .float .f32 0, .float .f32 0]).setIfInBounds 3 (.slice (some ⟨g1, 0, none⟩) r.c0.n r.c0.n)).setIfInBounds 4 (.int .i64 r.c0.i)).setIfInBounds 5 (.float .f32 r.g0)).setIfInBounds 6 (.slice (some ⟨g2, 0, none⟩) r.c1.n r.c1.n)).setIfInBounds 7 (.int .i64 r.c1.i)).setIfInBounds 8 (.float .f32 r.g1) by kernel_rfl]
    exact (blk_set_cs (blk_set_cs (blk_set_cs (blk_set_cs (blk_set_cs (blk_set_cs kB _ _) _ _) _ _) _ _) _ _) _ _)
  have kA3 : V3.heap[w.heap.size]? = some (.cells r.cells 77) := by rw [hV3]; exact ((Below.heap_setCell _ _ _ _ (show w.heap.size ≠ w.heap.size + 1 + 1 by omega)).trans ((Below.heap_setCell _ _ _ _ (show w.heap.size ≠ w.heap.size + 1 + 1 by omega)).trans ((Below.heap_setCell _ _ _ _ (show w.heap.size ≠ w.heap.size + 1 + 1 by omega)).trans ((Below.heap_setCell _ _ _ _ (show w.heap.size ≠ w.heap.size + 1 + 1 by omega)).trans ((Below.heap_setCell _ _ _ _ (show w.heap.size ≠ w.heap.size + 1 + 1 by omega)).trans (Below.heap_setCell _ _ _ _ (show w.heap.size ≠ w.heap.size + 1 + 1 by omega))))))).trans kA
  have kR3 : V3.heap[w.heap.size + 1]? = some (.cells #[.slice none 0 0, .int .i64 0, .slice none 0 0, .slice none 0 0, .int .i64 0, .float .f32 0, .slice none 0 0, .int .i64 0, .float .f32 0, .slice none 0 0, .int .i64 0, .slice none 0 0, .int .i64 0, .slice none 0 0, .int .i64 0, .slice none 0 0, .int .i64 0, .int .i64 0, .float .f32 0, .float .f32 0, .float .f32 0, .float .f32 0, .float .f32 0, .int .i64 0, .float .f32 0, .float .f32 0, .float .f32 0, .float .f32 0, .float .f32 0, .int .i64 0, .float .f32 0, .float .f32 0, .float .f32 0, .float .f32 0, .float .f32 0, .int .i64 0, .float .f32 0, .float .f32 0, .float .f32 0, .float .f32 0, .float .f32 0, .float .f32 0, .float .f32 0, .float .f32 0, .float .f32 0, .float .f32 0, .float .f32 0] 51) := by rw [hV3]; exact ((Below.heap_setCell _ _ _ _ (show w.heap.size + 1 ≠ w.heap.size + 1 + 1 by omega)).trans ((Below.heap_setCell _ _ _ _ (show w.heap.size + 1 ≠ w.heap.size + 1 + 1 by omega)).trans ((Below.heap_setCell _ _ _ _ (show w.heap.size + 1 ≠ w.heap.size + 1 + 1 by omega)).trans ((Below.heap_setCell _ _ _ _ (show w.heap.size + 1 ≠ w.heap.size + 1 + 1 by omega)).trans ((Below.heap_setCell _ _ _ _ (show w.heap.size + 1 ≠ w.heap.size + 1 + 1 by omega)).trans (Below.heap_setCell _ _ _ _ (show w.heap.size + 1 ≠ w.heap.size + 1 + 1 by omega))))))).trans kR
  have zW3 : w.heap.size + 3 ≤ V3.heap.size := by rw [hV3]; simp; omega
  have zV3 : w3.heap.size ≤ V3.heap.size := by rw [hV3]; simp
  have HB3 : Hid (Below w.heap.size w V3) := by
    have hbx := HB.out
    show Below _ _ _
    rw [hV3]
    (repeat (first | (with_reducible refine Below.drewN ?_) | (with_reducible refine Below.drew ?_) | ((with_reducible refine Below.alloc ?_ ?_ _); rotate_left; (first | omega | (simp <;> omega))) | ((with_reducible refine Below.setCell ?_ ?_ _); rotate_left; (first | omega | (simp <;> omega))) | (with_reducible exact Below.refl _ _) | (with_reducible assumption)))
  have F0 := Lib.hid (F0.out.same2 zV3 (fun b o e hl => by cases e; rw [hV3]; exact ((Below.heap_setCell _ _ _ _ (show g0 ≠ w.heap.size + 1 + 1 by omega)).trans ((Below.heap_setCell _ _ _ _ (show g0 ≠ w.heap.size + 1 + 1 by omega)).trans ((Below.heap_setCell _ _ _ _ (show g0 ≠ w.heap.size + 1 + 1 by omega)).trans ((Below.heap_setCell _ _ _ _ (show g0 ≠ w.heap.size + 1 + 1 by omega)).trans ((Below.heap_setCell _ _ _ _ (show g0 ≠ w.heap.size + 1 + 1 by omega)).trans (Below.heap_setCell _ _ _ _ (show g0 ≠ w.heap.size + 1 + 1 by omega)))))))))
  have Ft := Lib.hid (Ft.out.same2 zV3 (fun b o e hl => by cases e; rw [hV3]; exact ((Below.heap_setCell _ _ _ _ (show gt ≠ w.heap.size + 1 + 1 by omega)).trans ((Below.heap_setCell _ _ _ _ (show gt ≠ w.heap.size + 1 + 1 by omega)).trans ((Below.heap_setCell _ _ _ _ (show gt ≠ w.heap.size + 1 + 1 by omega)).trans ((Below.heap_setCell _ _ _ _ (show gt ≠ w.heap.size + 1 + 1 by omega)).trans ((Below.heap_setCell _ _ _ _ (show gt ≠ w.heap.size + 1 + 1 by omega)).trans (Below.heap_setCell _ _ _ _ (show gt ≠ w.heap.size + 1 + 1 by omega)))))))))
  have F1 := Lib.hid (F1.out.same2 zV3 (fun b o e hl => by cases e; rw [hV3]; exact ((Below.heap_setCell _ _ _ _ (show g1 ≠ w.heap.size + 1 + 1 by omega)).trans ((Below.heap_setCell _ _ _ _ (show g1 ≠ w.heap.size + 1 + 1 by omega)).trans ((Below.heap_setCell _ _ _ _ (show g1 ≠ w.heap.size + 1 + 1 by omega)).trans ((Below.heap_setCell _ _ _ _ (show g1 ≠ w.heap.size + 1 + 1 by omega)).trans ((Below.heap_setCell _ _ _ _ (show g1 ≠ w.heap.size + 1 + 1 by omega)).trans (Below.heap_setCell _ _ _ _ (show g1 ≠ w.heap.size + 1 + 1 by omega)))))))))
  have F2 := Lib.hid (F2.out.same2 zV3 (fun b o e hl => by cases e; rw [hV3]; exact ((Below.heap_setCell _ _ _ _ (show g2 ≠ w.heap.size + 1 + 1 by omega)).trans ((Below.heap_setCell _ _ _ _ (show g2 ≠ w.heap.size + 1 + 1 by omega)).trans ((Below.heap_setCell _ _ _ _ (show g2 ≠ w.heap.size + 1 + 1 by omega)).trans ((Below.heap_setCell _ _ _ _ (show g2 ≠ w.heap.size + 1 + 1 by omega)).trans ((Below.heap_setCell _ _ _ _ (show g2 ≠ w.heap.size + 1 + 1 by omega)).trans (Below.heap_setCell _ _ _ _ (show g2 ≠ w.heap.size + 1 + 1 by omega)))))))))
  clear hV3 kA kR kB HB zW zV3
  have kA := kA3
  have kR := kR3
  have kB := kB3
  have HB := HB3
  have zW := zW3
  clear kA3 kR3 kB3 HB3 zW3
  have a9 : V3.cell? ⟨w.heap.size, 9, none⟩ = some (.slice r.l0.a r.l0.n r.l0.c) := blk_cell kA rfl
  have a10 : V3.cell? ⟨w.heap.size, 10, none⟩ = some (.int .i64 r.l0.i) := blk_cell kA rfl
  have a11 : V3.cell? ⟨w.heap.size, 11, none⟩ = some (.slice r.l1.a r.l1.n r.l1.c) := blk_cell kA rfl
  have a12 : V3.cell? ⟨w.heap.size, 12, none⟩ = some (.int .i64 r.l1.i) := blk_cell kA rfl
  have a13 : V3.cell? ⟨w.heap.size, 13, none⟩ = some (.slice r.l2.a r.l2.n r.l2.c) := blk_cell kA rfl
  have a14 : V3.cell? ⟨w.heap.size, 14, none⟩ = some (.int .i64 r.l2.i) := blk_cell kA rfl
  have a15 : V3.cell? ⟨w.heap.size, 15, none⟩ = some (.slice r.l3.a r.l3.n r.l3.c) := blk_cell kA rfl
  have a16 : V3.cell? ⟨w.heap.size, 16, none⟩ = some (.int .i64 r.l3.i) := blk_cell kA rfl
  go_wp2_with fail
  refine (c_toRingA4 r.l0 r.l1 r.l2 r.l3 _ (FS.below (B := w.heap.size) (H.out.q3) HB.out (Nat.le_refl _)) M.out.m3 (FS.below (B := w.heap.size) (H.out.q4) HB.out (Nat.le_refl _)) M.out.m4 (FS.below (B := w.heap.size) (H.out.q5) HB.out (Nat.le_refl _)) M.out.m5 (FS.below (B := w.heap.size) (H.out.q6) HB.out (Nat.le_refl _)) M.out.m6).mono ?_
  rintro e w4 ⟨g3, g4, g5, g6, rfl, hb4, lg3, f3, lg4, f4, lg5, f5, lg6, f6⟩
  have zW4 : w.heap.size + 3 ≤ w4.heap.size := by have := hb4.size; (try simp at this); omega
  have kA4 : w4.heap[w.heap.size]? = some (.cells r.cells 77) := (hb4.block (w.heap.size) (by first | omega | (simp; omega))).trans kA
  have kR4 : w4.heap[w.heap.size + 1]? = some (.cells #[.slice none 0 0, .int .i64 0, .slice none 0 0, .slice none 0 0, .int .i64 0, .float .f32 0, .slice none 0 0, .int .i64 0, .float .f32 0, .slice none 0 0, .int .i64 0, .slice none 0 0, .int .i64 0, .slice none 0 0, .int .i64 0, .slice none 0 0, .int .i64 0, .int .i64 0, .float .f32 0, .float .f32 0, .float .f32 0, .float .f32 0, .float .f32 0, .int .i64 0, .float .f32 0, .float .f32 0, .float .f32 0, .float .f32 0, .float .f32 0, .int .i64 0, .float .f32 0, .float .f32 0, .float .f32 0, .float .f32 0, .float .f32 0, .int .i64 0, .float .f32 0, .float .f32 0, .float .f32 0, .float .f32 0, .float .f32 0, .float .f32 0, .float .f32 0, .float .f32 0, .float .f32 0, .float .f32 0, .float .f32 0] 51) := (hb4.block (w.heap.size + 1) (by first | omega | (simp; omega))).trans kR
  have kB4 : w4.heap[w.heap.size + 1 + 1]? = some (.cells #[.slice (some ⟨g0, 0, none⟩) r.e.n r.e.n, .int .i64 r.e.i, .slice (some ⟨gt, 0, none⟩) r.tn r.tn, .slice (some ⟨g1, 0, none⟩) r.c0.n r.c0.n, .int .i64 r.c0.i, .float .f32 r.g0, .slice (some ⟨g2, 0, none⟩) r.c1.n r.c1.n, .int .i64 r.c1.i, .float .f32 r.g1, .slice none 0 0, .int .i64 0, .slice none 0 0, .int .i64 0, .slice none 0 0, .int .i64 0, .slice none 0 0, .int .i64 0, .int .i64 0, .float .f32 0, .float .f32 0, .float .f32 0, .float .f32 0, .float .f32 0, .int .i64 0, .float .f32 0, .float .f32 0, .float .f32 0, .float .f32 0, .float .f32 0, .int .i64 0, .float .f32 0, .float .f32 0, .float .f32 0, .float .f32 0, .float .f32 0, .int .i64 0, .float .f32 0, .float .f32 0, .float .f32 0, .float .f32 0, .float .f32 0, .float .f32 0, .float .f32 0, .float .f32 0, .float .f32 0, .float .f32 0, .float .f32 0] 51) := hb4.block (w.heap.size + 1 + 1) (by first | omega | (simp; omega)) |>.trans kB
  have HB4 := Lib.hid (Below.trans HB.out (hb4.mono (by first | omega | (simp; omega))))
  have F0 := Lib.hid (F0.out.same2 (by have := hb4.size; (try simp at this); omega) (fun b o e hl => by cases e; exact (hb4.block _ (by first | omega | (simp; omega)))))
  have Ft := Lib.hid (Ft.out.same2 (by have := hb4.size; (try simp at this); omega) (fun b o e hl => by cases e; exact (hb4.block _ (by first | omega | (simp; omega)))))
  have F1 := Lib.hid (F1.out.same2 (by have := hb4.size; (try simp at this); omega) (fun b o e hl => by cases e; exact (hb4.block _ (by first | omega | (simp; omega)))))
  have F2 := Lib.hid (F2.out.same2 (by have := hb4.size; (try simp at this); omega) (fun b o e hl => by cases e; exact (hb4.block _ (by first | omega | (simp; omega)))))
  have F3 := Lib.hid f3
  clear f3
  have lo_g3 : w.heap.size + 3 ≤ g3 := by have := lg3; (try simp at this); omega
  have F4 := Lib.hid f4
  clear f4
  have lo_g4 : w.heap.size + 3 ≤ g4 := by have := lg4; (try simp at this); omega
  have F5 := Lib.hid f5
  clear f5
  have lo_g5 : w.heap.size + 3 ≤ g5 := by have := lg5; (try simp at this); omega
  have F6 := Lib.hid f6
  clear f6
  have lo_g6 : w.heap.size + 3 ≤ g6 := by have := lg6; (try simp at this); omega
  clear a9 a10 a11 a12 a13 a14 a15 a16
  clear kA kR kB hb4 HB zW
  have kA := kA4
  have kR := kR4
  have kB := kB4
  have HB := HB4
  have zW := zW4
  clear kA4 kR4 kB4 HB4 zW4
  have b9 : w4.cell? ⟨w.heap.size + 1 + 1, 9, none⟩ = some (.slice none 0 0) := blk_cell kB rfl
  have b10 : w4.cell? ⟨w.heap.size + 1 + 1, 10, none⟩ = some (.int .i64 0) := blk_cell kB rfl
  have b11 : w4.cell? ⟨w.heap.size + 1 + 1, 11, none⟩ = some (.slice none 0 0) := blk_cell kB rfl
  have b12 : w4.cell? ⟨w.heap.size + 1 + 1, 12, none⟩ = some (.int .i64 0) := blk_cell kB rfl
  have b13 : w4.cell? ⟨w.heap.size + 1 + 1, 13, none⟩ = some (.slice none 0 0) := blk_cell kB rfl
  have b14 : w4.cell? ⟨w.heap.size + 1 + 1, 14, none⟩ = some (.int .i64 0) := blk_cell kB rfl
  have b15 : w4.cell? ⟨w.heap.size + 1 + 1, 15, none⟩ = some (.slice none 0 0) := blk_cell kB rfl
  have b16 : w4.cell? ⟨w.heap.size + 1 + 1, 16, none⟩ = some (.int .i64 0) := blk_cell kB rfl
  have u9 : w4.frozen? ⟨w.heap.size + 1 + 1, 9, none⟩ = false := blk_free kB 9
  have u10 : w4.frozen? ⟨w.heap.size + 1 + 1, 10, none⟩ = false := blk_free kB 10
  have u11 : w4.frozen? ⟨w.heap.size + 1 + 1, 11, none⟩ = false := blk_free kB 11
  have u12 : w4.frozen? ⟨w.heap.size + 1 + 1, 12, none⟩ = false := blk_free kB 12
  have u13 : w4.frozen? ⟨w.heap.size + 1 + 1, 13, none⟩ = false := blk_free kB 13
  have u14 : w4.frozen? ⟨w.heap.size + 1 + 1, 14, none⟩ = false := blk_free kB 14
  have u15 : w4.frozen? ⟨w.heap.size + 1 + 1, 15, none⟩ = false := blk_free kB 15
  have u16 : w4.frozen? ⟨w.heap.size + 1 + 1, 16, none⟩ = false := blk_free kB 16
  go_upto_region 6 with fail
  clear b9 b10 b11 b12 b13 b14 b15 b16 u9 u10 u11 u12 u13 u14 u15 u16
  refine wp_named ?_
  intro V4 hV4
  have kB4 : V4.heap[w.heap.size + 1 + 1]? = some (.cells #[.slice (some ⟨g0, 0, none⟩) r.e.n r.e.n, .int .i64 r.e.i, .slice (some ⟨gt, 0, none⟩) r.tn r.tn, .slice (some ⟨g1, 0, none⟩) r.c0.n r.c0.n, .int .i64 r.c0.i, .float .f32 r.g0, .slice (some ⟨g2, 0, none⟩) r.c1.n r.c1.n, .int .i64 r.c1.i, .float .f32 r.g1, .slice (some ⟨g3, 0, none⟩) r.l0.n r.l0.n, .int .i64 r.l0.i, .slice (some ⟨g4, 0, none⟩) r.l1.n r.l1.n, .int .i64 r.l1.i, .slice (some ⟨g5, 0, none⟩) r.l2.n r.l2.n, .int .i64 r.l2.i, .slice (some ⟨g6, 0, none⟩) r.l3.n r.l3.n, .int .i64 r.l3.i, .int .i64 0, .float .f32 0, .float .f32 0, .float .f32 0, .float .f32 0, .float .f32 0, .int .i64 0, .float .f32 0, .float .f32 0, .float .f32 0, .float .f32 0, .float .f32 0, .int .i64 0, .float .f32 0, .float .f32 0, .float .f32 0, .float .f32 0, .float .f32 0, .int .i64 0, .float .f32 0, .float .f32 0, .float .f32 0, .float .f32 0, .float .f32 0, .float .f32 0, .float .f32 0, .float .f32 0, .float .f32 0, .float .f32 0, .float .f32 0] 51) := by
    rw [hV4, show (#[.slice (some ⟨g0, 0, none⟩) r.e.n r.e.n, .int .i64 r.e.i, .slice (some ⟨gt, 0, none⟩) r.tn r.tn, .slice (some ⟨g1, 0, none⟩) r.c0.n r.c0.n, .int .i64 r.c0.i, .float .f32 r.g0, .slice (some ⟨g2, 0, none⟩) r.c1.n r.c1.n, .int .i64 r.c1.i, .float .f32 r.g1, .slice (some ⟨g3, 0, none⟩) r.l0.n r.l0.n, .int .i64 r.l0.i, .slice (some ⟨g4, 0, none⟩) r.l1.n r.l1.n, .int .i64 r.l1.i, .slice (some ⟨g5, 0, none⟩) r.l2.n r.l2.n, .int .i64 r.l2.i, .slice (some ⟨g6, 0, none⟩) r.l3.n r.l3.n, .int .i64 r.l3.i, .int .i64 0, .float .f32 0, .float .f32 0, .float .f32 0, .float .f32 0, .float .f32 0, .int .i64 0, .float .f32 0, .float .f32 0, .float .f32 0, .float .f32 0, .float .f32 0, .int .i64 0, .float .f32 0, .float .f32 0, .float .f32 0, .float .f32 0, .float .f32 0, .int .i64 0, .float .f32 0, .float .f32 0, .float .f32 0, .float .f32 0, .float .f32 0, .float .f32 0, .float .f32 0, .float .f32 0, .float .f32 0, .float .f32 0, .float .f32 0] : Array Value) = ((((((((#[.slice (some ⟨g0, 0, none⟩) r.e.n r.e.n, .int .i64 r.e.i, .slice (some ⟨gt, 0, none⟩) r.tn r.tn, .slice (some ⟨g1, 0, none⟩) r.c0.n r.c0.n, .int .i64 r.c0.i, .float .f32 r.g0, .slice (some ⟨g2, 0, none⟩) r.c1.n r.c1.n, .int .i64 r.c1.i, .float .f32 r.g1, .slice none 0 0, .int .i64 0, .slice none 0 0, .int .i64 0, .slice none 0 0, .int .i64 0, .slice none 0 0, .int .i64 0, .int .i64 0, .float .f32 0, .float .f32 0, .float .f32 0, .float .f32 0, .float .f32 0, .int .i64 0, .float .f32 0, .float .f32 0, .float .f32 0, .float .f32 0, .float .f32 0, .int .i64 0, .float .f32 0, .float .f32 0, .float .f32 0, .float .f32 0, .float .f32 0, .int .i64 0, .float .f32 0, .float .f32 0, .float .f32 0, .float .f32 0, .float .f32 0, .float .f32 0, .float .f32 0, .float .f32 0, .float .f32 0, .float .f32 0, .float .f32 0]).setIfInBounds 9 (.slice (some ⟨g3, 0, none⟩) r.l0.n r.l0.n)).setIfInBounds 10 (.int .i64 r.l0.i)).setIfInBounds 11 (.slice (some ⟨g4, 0, none⟩) r.l1.n r.l1.n)).setIfInBounds 12 (.int .i64 r.l1.i)).setIfInBounds 13 (.slice (some ⟨g5, 0, none⟩) r.l2.n r.l2.n)).setIfInBounds 14 (.int .i64 r.l2.i)).setIfInBounds 15 (.slice (some ⟨g6, 0, none⟩) r.l3.n r.l3.n)).setIfInBounds 16 (.int .i64 r.l3.i) by kernel_rfl]
    exact (blk_set_cs (blk_set_cs (blk_set_cs (blk_set_cs (blk_set_cs (blk_set_cs (blk_set_cs (blk_set_cs kB _ _) _ _) _ _) _ _) _ _) _ _) _ _) _ _)
  have kA4 : V4.heap[w.heap.size]? = some (.cells r.cells 77) := by rw [hV4]; exact ((Below.heap_setCell _ _ _ _ (show w.heap.size ≠ w.heap.size + 1 + 1 by omega)).trans ((Below.heap_setCell _ _ _ _ (show w.heap.size ≠ w.heap.size + 1 + 1 by omega)).trans ((Below.heap_setCell _ _ _ _ (show w.heap.size ≠ w.heap.size + 1 + 1 by omega)).trans ((Below.heap_setCell _ _ _ _ (show w.heap.size ≠ w.heap.size + 1 + 1 by omega)).trans ((Below.heap_setCell _ _ _ _ (show w.heap.size ≠ w.heap.size + 1 + 1 by omega)).trans ((Below.heap_setCell _ _ _ _ (show w.heap.size ≠ w.heap.size + 1 + 1 by omega)).trans ((Below.heap_setCell _ _ _ _ (show w.heap.size ≠ w.heap.size + 1 + 1 by omega)).trans (Below.heap_setCell _ _ _ _ (show w.heap.size ≠ w.heap.size + 1 + 1 by omega))))))))).trans kA
  have kR4 : V4.heap[w.heap.size + 1]? = some (.cells #[.slice none 0 0, .int .i64 0, .slice none 0 0, .slice none 0 0, .int .i64 0, .float .f32 0, .slice none 0 0, .int .i64 0, .float .f32 0, .slice none 0 0, .int .i64 0, .slice none 0 0, .int .i64 0, .slice none 0 0, .int .i64 0, .slice none 0 0, .int .i64 0, .int .i64 0, .float .f32 0, .float .f32 0, .float .f32 0, .float .f32 0, .float .f32 0, .int .i64 0, .float .f32 0, .float .f32 0, .float .f32 0, .float .f32 0, .float .f32 0, .int .i64 0, .float .f32 0, .float .f32 0, .float .f32 0, .float .f32 0, .float .f32 0, .int .i64 0, .float .f32 0, .float .f32 0, .float .f32 0, .float .f32 0, .float .f32 0, .float .f32 0, .float .f32 0, .float .f32 0, .float .f32 0, .float .f32 0, .float .f32 0] 51) := by rw [hV4]; exact ((Below.heap_setCell _ _ _ _ (show w.heap.size + 1 ≠ w.heap.size + 1 + 1 by omega)).trans ((Below.heap_setCell _ _ _ _ (show w.heap.size + 1 ≠ w.heap.size + 1 + 1 by omega)).trans ((Below.heap_setCell _ _ _ _ (show w.heap.size + 1 ≠ w.heap.size + 1 + 1 by omega)).trans ((Below.heap_setCell _ _ _ _ (show w.heap.size + 1 ≠ w.heap.size + 1 + 1 by omega)).trans ((Below.heap_setCell _ _ _ _ (show w.heap.size + 1 ≠ w.heap.size + 1 + 1 by omega)).trans ((Below.heap_setCell _ _ _ _ (show w.heap.size + 1 ≠ w.heap.size + 1 + 1 by omega)).trans ((Below.heap_setCell _ _ _ _ (show w.heap.size + 1 ≠ w.heap.size + 1 + 1 by omega)).trans (Below.heap_setCell _ _ _ _ (show w.heap.size + 1 ≠ w.heap.size + 1 + 1 by omega))))))))).trans kR
  have zW4 : w.heap.size + 3 ≤ V4.heap.size := by rw [hV4]; simp; omega
  have zV4 : w4.heap.size ≤ V4.heap.size := by rw [hV4]; simp
  have HB4 : Hid (Below w.heap.size w V4) := by
    have hbx := HB.out
    show Below _ _ _
    rw [hV4]
    (repeat (first | (with_reducible refine Below.drewN ?_) | (with_reducible refine Below.drew ?_) | ((with_reducible refine Below.alloc ?_ ?_ _); rotate_left; (first | omega | (simp <;> omega))) | ((with_reducible refine Below.setCell ?_ ?_ _); rotate_left; (first | omega | (simp <;> omega))) | (with_reducible exact Below.refl _ _) | (with_reducible assumption)))
  have F0 := Lib.hid (F0.out.same2 zV4 (fun b o e hl => by cases e; rw [hV4]; exact ((Below.heap_setCell _ _ _ _ (show g0 ≠ w.heap.size + 1 + 1 by omega)).trans ((Below.heap_setCell _ _ _ _ (show g0 ≠ w.heap.size + 1 + 1 by omega)).trans ((Below.heap_setCell _ _ _ _ (show g0 ≠ w.heap.size + 1 + 1 by omega)).trans ((Below.heap_setCell _ _ _ _ (show g0 ≠ w.heap.size + 1 + 1 by omega)).trans ((Below.heap_setCell _ _ _ _ (show g0 ≠ w.heap.size + 1 + 1 by omega)).trans ((Below.heap_setCell _ _ _ _ (show g0 ≠ w.heap.size + 1 + 1 by omega)).trans ((Below.heap_setCell _ _ _ _ (show g0 ≠ w.heap.size + 1 + 1 by omega)).trans (Below.heap_setCell _ _ _ _ (show g0 ≠ w.heap.size + 1 + 1 by omega)))))))))))
  have Ft := Lib.hid (Ft.out.same2 zV4 (fun b o e hl => by cases e; rw [hV4]; exact ((Below.heap_setCell _ _ _ _ (show gt ≠ w.heap.size + 1 + 1 by omega)).trans ((Below.heap_setCell _ _ _ _ (show gt ≠ w.heap.size + 1 + 1 by omega)).trans ((Below.heap_setCell _ _ _ _ (show gt ≠ w.heap.size + 1 + 1 by omega)).trans ((Below.heap_setCell _ _ _ _ (show gt ≠ w.heap.size + 1 + 1 by omega)).trans ((Below.heap_setCell _ _ _ _ (show gt ≠ w.heap.size + 1 + 1 by omega)).trans ((Below.heap_setCell _ _ _ _ (show gt ≠ w.heap.size + 1 + 1 by omega)).trans ((Below.heap_setCell _ _ _ _ (show gt ≠ w.heap.size + 1 + 1 by omega)).trans (Below.heap_setCell _ _ _ _ (show gt ≠ w.heap.size + 1 + 1 by omega)))))))))))
  have F1 := Lib.hid (F1.out.same2 zV4 (fun b o e hl => by cases e; rw [hV4]; exact ((Below.heap_setCell _ _ _ _ (show g1 ≠ w.heap.size + 1 + 1 by omega)).trans ((Below.heap_setCell _ _ _ _ (show g1 ≠ w.heap.size + 1 + 1 by omega)).trans ((Below.heap_setCell _ _ _ _ (show g1 ≠ w.heap.size + 1 + 1 by omega)).trans ((Below.heap_setCell _ _ _ _ (show g1 ≠ w.heap.size + 1 + 1 by omega)).trans ((Below.heap_setCell _ _ _ _ (show g1 ≠ w.heap.size + 1 + 1 by omega)).trans ((Below.heap_setCell _ _ _ _ (show g1 ≠ w.heap.size + 1 + 1 by omega)).trans ((Below.heap_setCell _ _ _ _ (show g1 ≠ w.heap.size + 1 + 1 by omega)).trans (Below.heap_setCell _ _ _ _ (show g1 ≠ w.heap.size + 1 + 1 by omega)))))))))))
  have F2 := Lib.hid (F2.out.same2 zV4 (fun b o e hl => by cases e; rw [hV4]; exact ((Below.heap_setCell _ _ _ _ (show g2 ≠ w.heap.size + 1 + 1 by omega)).trans ((Below.heap_setCell _ _ _ _ (show g2 ≠ w.heap.size + 1 + 1 by omega)).trans ((Below.heap_setCell _ _ _ _ (show g2 ≠ w.heap.size + 1 + 1 by omega)).trans ((Below.heap_setCell _ _ _ _ (show g2 ≠ w.heap.size + 1 + 1 by omega)).trans ((Below.heap_setCell _ _ _ _ (show g2 ≠ w.heap.size + 1 + 1 by omega)).trans ((Below.heap_setCell _ _ _ _ (show g2 ≠ w.heap.size + 1 + 1 by omega)).trans ((Below.heap_setCell _ _ _ _ (show g2 ≠ w.heap.size + 1 + 1 by omega)).trans (Below.heap_setCell _ _ _ _ (show g2 ≠ w.heap.size + 1 + 1 by omega)))))))))))
  have F3 := Lib.hid (F3.out.same2 zV4 (fun b o e hl => by cases e; rw [hV4]; exact ((Below.heap_setCell _ _ _ _ (show g3 ≠ w.heap.size + 1 + 1 by omega)).trans ((Below.heap_setCell _ _ _ _ (show g3 ≠ w.heap.size + 1 + 1 by omega)).trans ((Below.heap_setCell _ _ _ _ (show g3 ≠ w.heap.size + 1 + 1 by omega)).trans ((Below.heap_setCell _ _ _ _ (show g3 ≠ w.heap.size + 1 + 1 by omega)).trans ((Below.heap_setCell _ _ _ _ (show g3 ≠ w.heap.size + 1 + 1 by omega)).trans ((Below.heap_setCell _ _ _ _ (show g3 ≠ w.heap.size + 1 + 1 by omega)).trans ((Below.heap_setCell _ _ _ _ (show g3 ≠ w.heap.size + 1 + 1 by omega)).trans (Below.heap_setCell _ _ _ _ (show g3 ≠ w.heap.size + 1 + 1 by omega)))))))))))
  have F4 := Lib.hid (F4.out.same2 zV4 (fun b o e hl => by cases e; rw [hV4]; exact ((Below.heap_setCell _ _ _ _ (show g4 ≠ w.heap.size + 1 + 1 by omega)).trans ((Below.heap_setCell _ _ _ _ (show g4 ≠ w.heap.size + 1 + 1 by omega)).trans ((Below.heap_setCell _ _ _ _ (show g4 ≠ w.heap.size + 1 + 1 by omega)).trans ((Below.heap_setCell _ _ _ _ (show g4 ≠ w.heap.size + 1 + 1 by omega)).trans ((Below.heap_setCell _ _ _ _ (show g4 ≠ w.heap.size + 1 + 1 by omega)).trans ((Below.heap_setCell _ _ _ _ (show g4 ≠ w.heap.size + 1 + 1 by omega)).trans ((Below.heap_setCell _ _ _ _ (show g4 ≠ w.heap.size + 1 + 1 by omega)).trans (Below.heap_setCell _ _ _ _ (show g4 ≠ w.heap.size + 1 + 1 by omega)))))))))))
  have F5 := Lib.hid (F5.out.same2 zV4 (fun b o e hl => by cases e; rw [hV4]; exact ((Below.heap_setCell _ _ _ _ (show g5 ≠ w.heap.size + 1 + 1 by omega)).trans ((Below.heap_setCell _ _ _ _ (show g5 ≠ w.heap.size + 1 + 1 by omega)).trans ((Below.heap_setCell _ _ _ _ (show g5 ≠ w.heap.size + 1 + 1 by omega)).trans ((Below.heap_setCell _ _ _ _ (show g5 ≠ w.heap.size + 1 + 1 by omega)).trans ((Below.heap_setCell _ _ _ _ (show g5 ≠ w.heap.size + 1 + 1 by omega)).trans ((Below.heap_setCell _ _ _ _ (show g5 ≠ w.heap.size + 1 + 1 by omega)).trans ((Below.heap_setCell _ _ _ _ (show g5 ≠ w.heap.size + 1 + 1 by omega)).trans (Below.heap_setCell _ _ _ _ (show g5 ≠ w.heap.size + 1 + 1 by omega)))))))))))
  have F6 := Lib.hid (F6.out.same2 zV4 (fun b o e hl => by cases e; rw [hV4]; exact ((Below.heap_setCell _ _ _ _ (show g6 ≠ w.heap.size + 1 + 1 by omega)).trans ((Below.heap_setCell _ _ _ _ (show g6 ≠ w.heap.size + 1 + 1 by omega)).trans ((Below.heap_setCell _ _ _ _ (show g6 ≠ w.heap.size + 1 + 1 by omega)).trans ((Below.heap_setCell _ _ _ _ (show g6 ≠ w.heap.size + 1 + 1 by omega)).trans ((Below.heap_setCell _ _ _ _ (show g6 ≠ w.heap.size + 1 + 1 by omega)).trans ((Below.heap_setCell _ _ _ _ (show g6 ≠ w.heap.size + 1 + 1 by omega)).trans ((Below.heap_setCell _ _ _ _ (show g6 ≠ w.heap.size + 1 + 1 by omega)).trans (Below.heap_setCell _ _ _ _ (show g6 ≠ w.heap.size + 1 + 1 by omega)))))))))))
  clear hV4 kA kR kB HB zW zV4
  have kA := kA4
  have kR := kR4
  have kB := kB4
  have HB := HB4
  have zW := zW4
  clear kA4 kR4 kB4 HB4 zW4
  have kbA : blkAt V4 (w.heap.size) = some (.cells r.cells 77) := kA
  go_wp2_with fail
  refine (c_toFilterA4 r.d0 r.d1 r.d2 r.d3 _).mono ?_
  rintro e w5 ⟨rfl, hb5⟩
  have zW5 : w.heap.size + 3 ≤ w5.heap.size := by have := hb5.size; (try simp at this); omega
  have kA5 : w5.heap[w.heap.size]? = some (.cells r.cells 77) := (hb5.block (w.heap.size) (by first | omega | (simp; omega))).trans kA
  have kR5 : w5.heap[w.heap.size + 1]? = some (.cells #[.slice none 0 0, .int .i64 0, .slice none 0 0, .slice none 0 0, .int .i64 0, .float .f32 0, .slice none 0 0, .int .i64 0, .float .f32 0, .slice none 0 0, .int .i64 0, .slice none 0 0, .int .i64 0, .slice none 0 0, .int .i64 0, .slice none 0 0, .int .i64 0, .int .i64 0, .float .f32 0, .float .f32 0, .float .f32 0, .float .f32 0, .float .f32 0, .int .i64 0, .float .f32 0, .float .f32 0, .float .f32 0, .float .f32 0, .float .f32 0, .int .i64 0, .float .f32 0, .float .f32 0, .float .f32 0, .float .f32 0, .float .f32 0, .int .i64 0, .float .f32 0, .float .f32 0, .float .f32 0, .float .f32 0, .float .f32 0, .float .f32 0, .float .f32 0, .float .f32 0, .float .f32 0, .float .f32 0, .float .f32 0] 51) := (hb5.block (w.heap.size + 1) (by first | omega | (simp; omega))).trans kR
  have kB5 : w5.heap[w.heap.size + 1 + 1]? = some (.cells #[.slice (some ⟨g0, 0, none⟩) r.e.n r.e.n, .int .i64 r.e.i, .slice (some ⟨gt, 0, none⟩) r.tn r.tn, .slice (some ⟨g1, 0, none⟩) r.c0.n r.c0.n, .int .i64 r.c0.i, .float .f32 r.g0, .slice (some ⟨g2, 0, none⟩) r.c1.n r.c1.n, .int .i64 r.c1.i, .float .f32 r.g1, .slice (some ⟨g3, 0, none⟩) r.l0.n r.l0.n, .int .i64 r.l0.i, .slice (some ⟨g4, 0, none⟩) r.l1.n r.l1.n, .int .i64 r.l1.i, .slice (some ⟨g5, 0, none⟩) r.l2.n r.l2.n, .int .i64 r.l2.i, .slice (some ⟨g6, 0, none⟩) r.l3.n r.l3.n, .int .i64 r.l3.i, .int .i64 0, .float .f32 0, .float .f32 0, .float .f32 0, .float .f32 0, .float .f32 0, .int .i64 0, .float .f32 0, .float .f32 0, .float .f32 0, .float .f32 0, .float .f32 0, .int .i64 0, .float .f32 0, .float .f32 0, .float .f32 0, .float .f32 0, .float .f32 0, .int .i64 0, .float .f32 0, .float .f32 0, .float .f32 0, .float .f32 0, .float .f32 0, .float .f32 0, .float .f32 0, .float .f32 0, .float .f32 0, .float .f32 0, .float .f32 0] 51) := hb5.block (w.heap.size + 1 + 1) (by first | omega | (simp; omega)) |>.trans kB
  have HB5 := Lib.hid (Below.trans HB.out (hb5.mono (by first | omega | (simp; omega))))
  have F0 := Lib.hid (F0.out.same2 (by have := hb5.size; (try simp at this); omega) (fun b o e hl => by cases e; exact (hb5.block _ (by first | omega | (simp; omega)))))
  have Ft := Lib.hid (Ft.out.same2 (by have := hb5.size; (try simp at this); omega) (fun b o e hl => by cases e; exact (hb5.block _ (by first | omega | (simp; omega)))))
  have F1 := Lib.hid (F1.out.same2 (by have := hb5.size; (try simp at this); omega) (fun b o e hl => by cases e; exact (hb5.block _ (by first | omega | (simp; omega)))))
  have F2 := Lib.hid (F2.out.same2 (by have := hb5.size; (try simp at this); omega) (fun b o e hl => by cases e; exact (hb5.block _ (by first | omega | (simp; omega)))))
  have F3 := Lib.hid (F3.out.same2 (by have := hb5.size; (try simp at this); omega) (fun b o e hl => by cases e; exact (hb5.block _ (by first | omega | (simp; omega)))))
  have F4 := Lib.hid (F4.out.same2 (by have := hb5.size; (try simp at this); omega) (fun b o e hl => by cases e; exact (hb5.block _ (by first | omega | (simp; omega)))))
  have F5 := Lib.hid (F5.out.same2 (by have := hb5.size; (try simp at this); omega) (fun b o e hl => by cases e; exact (hb5.block _ (by first | omega | (simp; omega)))))
  have F6 := Lib.hid (F6.out.same2 (by have := hb5.size; (try simp at this); omega) (fun b o e hl => by cases e; exact (hb5.block _ (by first | omega | (simp; omega)))))
  clear kbA
  clear kA kR kB hb5 HB zW
  have kA := kA5
  have kR := kR5
  have kB := kB5
  have HB := HB5
  have zW := zW5
  clear kA5 kR5 kB5 HB5 zW5
  have kbB : blkAt w5 (w.heap.size + 1 + 1) = some (.cells #[.slice (some ⟨g0, 0, none⟩) r.e.n r.e.n, .int .i64 r.e.i, .slice (some ⟨gt, 0, none⟩) r.tn r.tn, .slice (some ⟨g1, 0, none⟩) r.c0.n r.c0.n, .int .i64 r.c0.i, .float .f32 r.g0, .slice (some ⟨g2, 0, none⟩) r.c1.n r.c1.n, .int .i64 r.c1.i, .float .f32 r.g1, .slice (some ⟨g3, 0, none⟩) r.l0.n r.l0.n, .int .i64 r.l0.i, .slice (some ⟨g4, 0, none⟩) r.l1.n r.l1.n, .int .i64 r.l1.i, .slice (some ⟨g5, 0, none⟩) r.l2.n r.l2.n, .int .i64 r.l2.i, .slice (some ⟨g6, 0, none⟩) r.l3.n r.l3.n, .int .i64 r.l3.i, .int .i64 0, .float .f32 0, .float .f32 0, .float .f32 0, .float .f32 0, .float .f32 0, .int .i64 0, .float .f32 0, .float .f32 0, .float .f32 0, .float .f32 0, .float .f32 0, .int .i64 0, .float .f32 0, .float .f32 0, .float .f32 0, .float .f32 0, .float .f32 0, .int .i64 0, .float .f32 0, .float .f32 0, .float .f32 0, .float .f32 0, .float .f32 0, .float .f32 0, .float .f32 0, .float .f32 0, .float .f32 0, .float .f32 0, .float .f32 0] 51) := kB
  go_upto_region 7 with fail
  clear kbB
  refine wp_named ?_
  intro V5 hV5
  have kB5 : V5.heap[w.heap.size + 1 + 1]? = some (.cells #[.slice (some ⟨g0, 0, none⟩) r.e.n r.e.n, .int .i64 r.e.i, .slice (some ⟨gt, 0, none⟩) r.tn r.tn, .slice (some ⟨g1, 0, none⟩) r.c0.n r.c0.n, .int .i64 r.c0.i, .float .f32 r.g0, .slice (some ⟨g2, 0, none⟩) r.c1.n r.c1.n, .int .i64 r.c1.i, .float .f32 r.g1, .slice (some ⟨g3, 0, none⟩) r.l0.n r.l0.n, .int .i64 r.l0.i, .slice (some ⟨g4, 0, none⟩) r.l1.n r.l1.n, .int .i64 r.l1.i, .slice (some ⟨g5, 0, none⟩) r.l2.n r.l2.n, .int .i64 r.l2.i, .slice (some ⟨g6, 0, none⟩) r.l3.n r.l3.n, .int .i64 r.l3.i, .int .i64 r.d0.k, .float .f32 r.d0.f0, .float .f32 r.d0.f1, .float .f32 r.d0.f2, .float .f32 r.d0.f3, .float .f32 r.d0.f4, .int .i64 r.d1.k, .float .f32 r.d1.f0, .float .f32 r.d1.f1, .float .f32 r.d1.f2, .float .f32 r.d1.f3, .float .f32 r.d1.f4, .int .i64 r.d2.k, .float .f32 r.d2.f0, .float .f32 r.d2.f1, .float .f32 r.d2.f2, .float .f32 r.d2.f3, .float .f32 r.d2.f4, .int .i64 r.d3.k, .float .f32 r.d3.f0, .float .f32 r.d3.f1, .float .f32 r.d3.f2, .float .f32 r.d3.f3, .float .f32 r.d3.f4, .float .f32 0, .float .f32 0, .float .f32 0, .float .f32 0, .float .f32 0, .float .f32 0] 51) := by
    rw [hV5, show (#[.slice (some ⟨g0, 0, none⟩) r.e.n r.e.n, .int .i64 r.e.i, .slice (some ⟨gt, 0, none⟩) r.tn r.tn, .slice (some ⟨g1, 0, none⟩) r.c0.n r.c0.n, .int .i64 r.c0.i, .float .f32 r.g0, .slice (some ⟨g2, 0, none⟩) r.c1.n r.c1.n, .int .i64 r.c1.i, .float .f32 r.g1, .slice (some ⟨g3, 0, none⟩) r.l0.n r.l0.n, .int .i64 r.l0.i, .slice (some ⟨g4, 0, none⟩) r.l1.n r.l1.n, .int .i64 r.l1.i, .slice (some ⟨g5, 0, none⟩) r.l2.n r.l2.n, .int .i64 r.l2.i, .slice (some ⟨g6, 0, none⟩) r.l3.n r.l3.n, .int .i64 r.l3.i, .int .i64 r.d0.k, .float .f32 r.d0.f0, .float .f32 r.d0.f1, .float .f32 r.d0.f2, .float .f32 r.d0.f3, .float .f32 r.d0.f4, .int .i64 r.d1.k, .float .f32 r.d1.f0, .float .f32 r.d1.f1, .float .f32 r.d1.f2, .float .f32 r.d1.f3, .float .f32 r.d1.f4, .int .i64 r.d2.k, .float .f32 r.d2.f0, .float .f32 r.d2.f1, .float .f32 r.d2.f2, .float .f32 r.d2.f3, .float .f32 r.d2.f4, .int .i64 r.d3.k, .float .f32 r.d3.f0, .float .f32 r.d3.f1, .float .f32 r.d3.f2, .float .f32 r.d3.f3, .float .f32 r.d3.f4, .float .f32 0, .float .f32 0, .float .f32 0, .float .f32 0, .float .f32 0, .float .f32 0] : Array Value) = writeAt #[.slice (some ⟨g0, 0, none⟩) r.e.n r.e.n, .int .i64 r.e.i, .slice (some ⟨gt, 0, none⟩) r.tn r.tn, .slice (some ⟨g1, 0, none⟩) r.c0.n r.c0.n, .int .i64 r.c0.i, .float .f32 r.g0, .slice (some ⟨g2, 0, none⟩) r.c1.n r.c1.n, .int .i64 r.c1.i, .float .f32 r.g1, .slice (some ⟨g3, 0, none⟩) r.l0.n r.l0.n, .int .i64 r.l0.i, .slice (some ⟨g4, 0, none⟩) r.l1.n r.l1.n, .int .i64 r.l1.i, .slice (some ⟨g5, 0, none⟩) r.l2.n r.l2.n, .int .i64 r.l2.i, .slice (some ⟨g6, 0, none⟩) r.l3.n r.l3.n, .int .i64 r.l3.i, .int .i64 0, .float .f32 0, .float .f32 0, .float .f32 0, .float .f32 0, .float .f32 0, .int .i64 0, .float .f32 0, .float .f32 0, .float .f32 0, .float .f32 0, .float .f32 0, .int .i64 0, .float .f32 0, .float .f32 0, .float .f32 0, .float .f32 0, .float .f32 0, .int .i64 0, .float .f32 0, .float .f32 0, .float .f32 0, .float .f32 0, .float .f32 0, .float .f32 0, .float .f32 0, .float .f32 0, .float .f32 0, .float .f32 0, .float .f32 0] 17 [.int .i64 r.d0.k, .float .f32 r.d0.f0, .float .f32 r.d0.f1, .float .f32 r.d0.f2, .float .f32 r.d0.f3, .float .f32 r.d0.f4, .int .i64 r.d1.k, .float .f32 r.d1.f0, .float .f32 r.d1.f1, .float .f32 r.d1.f2, .float .f32 r.d1.f3, .float .f32 r.d1.f4, .int .i64 r.d2.k, .float .f32 r.d2.f0, .float .f32 r.d2.f1, .float .f32 r.d2.f2, .float .f32 r.d2.f3, .float .f32 r.d2.f4, .int .i64 r.d3.k, .float .f32 r.d3.f0, .float .f32 r.d3.f1, .float .f32 r.d3.f2, .float .f32 r.d3.f3, .float .f32 r.d3.f4] by kernel_rfl]
    exact (blk_sets _ _ kB)
  have kA5 : V5.heap[w.heap.size]? = some (.cells r.cells 77) := by rw [hV5]; exact ((wr_setCells _ _ _ _).block (w.heap.size) (by first | omega | (simp; omega)) (by first | (simp; done) | (simp; omega))).trans kA
  have kR5 : V5.heap[w.heap.size + 1]? = some (.cells #[.slice none 0 0, .int .i64 0, .slice none 0 0, .slice none 0 0, .int .i64 0, .float .f32 0, .slice none 0 0, .int .i64 0, .float .f32 0, .slice none 0 0, .int .i64 0, .slice none 0 0, .int .i64 0, .slice none 0 0, .int .i64 0, .slice none 0 0, .int .i64 0, .int .i64 0, .float .f32 0, .float .f32 0, .float .f32 0, .float .f32 0, .float .f32 0, .int .i64 0, .float .f32 0, .float .f32 0, .float .f32 0, .float .f32 0, .float .f32 0, .int .i64 0, .float .f32 0, .float .f32 0, .float .f32 0, .float .f32 0, .float .f32 0, .int .i64 0, .float .f32 0, .float .f32 0, .float .f32 0, .float .f32 0, .float .f32 0, .float .f32 0, .float .f32 0, .float .f32 0, .float .f32 0, .float .f32 0, .float .f32 0] 51) := by rw [hV5]; exact ((wr_setCells _ _ _ _).block (w.heap.size + 1) (by first | omega | (simp; omega)) (by first | (simp; done) | (simp; omega))).trans kR
  have zW5 : w.heap.size + 3 ≤ V5.heap.size := by rw [hV5]; rw [size_setCells]; omega
  have zV5 : w5.heap.size ≤ V5.heap.size := by rw [hV5]; rw [size_setCells]; exact Nat.le_refl _
  have HB5 : Hid (Below w.heap.size w V5) := by
    have hbx := HB.out
    show Below _ _ _
    rw [hV5]
    exact hbx.trans ((wr_setCells _ _ _ _).below (by omega) (by first | (simp; done) | (simp; omega)))
  have F0 := Lib.hid (F0.out.same2 zV5 (fun b o e hl => by cases e; rw [hV5]; exact ((wr_setCells _ _ _ _).block (g0) (by first | omega | (simp; omega)) (by first | (simp; done) | (simp; omega)))))
  have Ft := Lib.hid (Ft.out.same2 zV5 (fun b o e hl => by cases e; rw [hV5]; exact ((wr_setCells _ _ _ _).block (gt) (by first | omega | (simp; omega)) (by first | (simp; done) | (simp; omega)))))
  have F1 := Lib.hid (F1.out.same2 zV5 (fun b o e hl => by cases e; rw [hV5]; exact ((wr_setCells _ _ _ _).block (g1) (by first | omega | (simp; omega)) (by first | (simp; done) | (simp; omega)))))
  have F2 := Lib.hid (F2.out.same2 zV5 (fun b o e hl => by cases e; rw [hV5]; exact ((wr_setCells _ _ _ _).block (g2) (by first | omega | (simp; omega)) (by first | (simp; done) | (simp; omega)))))
  have F3 := Lib.hid (F3.out.same2 zV5 (fun b o e hl => by cases e; rw [hV5]; exact ((wr_setCells _ _ _ _).block (g3) (by first | omega | (simp; omega)) (by first | (simp; done) | (simp; omega)))))
  have F4 := Lib.hid (F4.out.same2 zV5 (fun b o e hl => by cases e; rw [hV5]; exact ((wr_setCells _ _ _ _).block (g4) (by first | omega | (simp; omega)) (by first | (simp; done) | (simp; omega)))))
  have F5 := Lib.hid (F5.out.same2 zV5 (fun b o e hl => by cases e; rw [hV5]; exact ((wr_setCells _ _ _ _).block (g5) (by first | omega | (simp; omega)) (by first | (simp; done) | (simp; omega)))))
  have F6 := Lib.hid (F6.out.same2 zV5 (fun b o e hl => by cases e; rw [hV5]; exact ((wr_setCells _ _ _ _).block (g6) (by first | omega | (simp; omega)) (by first | (simp; done) | (simp; omega)))))
  clear hV5 kA kR kB HB zW zV5
  have kA := kA5
  have kR := kR5
  have kB := kB5
  have HB := HB5
  have zW := zW5
  clear kA5 kR5 kB5 HB5 zW5
  have a41 : V5.cell? ⟨w.heap.size, 41, none⟩ = some (.float .f32 r.h0) := blk_cell kA rfl
  have a42 : V5.cell? ⟨w.heap.size, 42, none⟩ = some (.float .f32 r.h1) := blk_cell kA rfl
  have a43 : V5.cell? ⟨w.heap.size, 43, none⟩ = some (.float .f32 r.h2) := blk_cell kA rfl
  have a44 : V5.cell? ⟨w.heap.size, 44, none⟩ = some (.float .f32 r.h3) := blk_cell kA rfl
  go_wp2_with fail
  refine (c_toFloat32A4 _ _ _ _ _).mono ?_
  rintro e w6 ⟨rfl, hb6⟩
  have zW6 : w.heap.size + 3 ≤ w6.heap.size := by have := hb6.size; (try simp at this); omega
  have kA6 : w6.heap[w.heap.size]? = some (.cells r.cells 77) := (hb6.block (w.heap.size) (by first | omega | (simp; omega))).trans kA
  have kR6 : w6.heap[w.heap.size + 1]? = some (.cells #[.slice none 0 0, .int .i64 0, .slice none 0 0, .slice none 0 0, .int .i64 0, .float .f32 0, .slice none 0 0, .int .i64 0, .float .f32 0, .slice none 0 0, .int .i64 0, .slice none 0 0, .int .i64 0, .slice none 0 0, .int .i64 0, .slice none 0 0, .int .i64 0, .int .i64 0, .float .f32 0, .float .f32 0, .float .f32 0, .float .f32 0, .float .f32 0, .int .i64 0, .float .f32 0, .float .f32 0, .float .f32 0, .float .f32 0, .float .f32 0, .int .i64 0, .float .f32 0, .float .f32 0, .float .f32 0, .float .f32 0, .float .f32 0, .int .i64 0, .float .f32 0, .float .f32 0, .float .f32 0, .float .f32 0, .float .f32 0, .float .f32 0, .float .f32 0, .float .f32 0, .float .f32 0, .float .f32 0, .float .f32 0] 51) := (hb6.block (w.heap.size + 1) (by first | omega | (simp; omega))).trans kR
  have kB6 : w6.heap[w.heap.size + 1 + 1]? = some (.cells #[.slice (some ⟨g0, 0, none⟩) r.e.n r.e.n, .int .i64 r.e.i, .slice (some ⟨gt, 0, none⟩) r.tn r.tn, .slice (some ⟨g1, 0, none⟩) r.c0.n r.c0.n, .int .i64 r.c0.i, .float .f32 r.g0, .slice (some ⟨g2, 0, none⟩) r.c1.n r.c1.n, .int .i64 r.c1.i, .float .f32 r.g1, .slice (some ⟨g3, 0, none⟩) r.l0.n r.l0.n, .int .i64 r.l0.i, .slice (some ⟨g4, 0, none⟩) r.l1.n r.l1.n, .int .i64 r.l1.i, .slice (some ⟨g5, 0, none⟩) r.l2.n r.l2.n, .int .i64 r.l2.i, .slice (some ⟨g6, 0, none⟩) r.l3.n r.l3.n, .int .i64 r.l3.i, .int .i64 r.d0.k, .float .f32 r.d0.f0, .float .f32 r.d0.f1, .float .f32 r.d0.f2, .float .f32 r.d0.f3, .float .f32 r.d0.f4, .int .i64 r.d1.k, .float .f32 r.d1.f0, .float .f32 r.d1.f1, .float .f32 r.d1.f2, .float .f32 r.d1.f3, .float .f32 r.d1.f4, .int .i64 r.d2.k, .float .f32 r.d2.f0, .float .f32 r.d2.f1, .float .f32 r.d2.f2, .float .f32 r.d2.f3, .float .f32 r.d2.f4, .int .i64 r.d3.k, .float .f32 r.d3.f0, .float .f32 r.d3.f1, .float .f32 r.d3.f2, .float .f32 r.d3.f3, .float .f32 r.d3.f4, .float .f32 0, .float .f32 0, .float .f32 0, .float .f32 0, .float .f32 0, .float .f32 0] 51) := hb6.block (w.heap.size + 1 + 1) (by first | omega | (simp; omega)) |>.trans kB
  have HB6 := Lib.hid (Below.trans HB.out (hb6.mono (by first | omega | (simp; omega))))
  have F0 := Lib.hid (F0.out.same2 (by have := hb6.size; (try simp at this); omega) (fun b o e hl => by cases e; exact (hb6.block _ (by first | omega | (simp; omega)))))
  have Ft := Lib.hid (Ft.out.same2 (by have := hb6.size; (try simp at this); omega) (fun b o e hl => by cases e; exact (hb6.block _ (by first | omega | (simp; omega)))))
  have F1 := Lib.hid (F1.out.same2 (by have := hb6.size; (try simp at this); omega) (fun b o e hl => by cases e; exact (hb6.block _ (by first | omega | (simp; omega)))))
  have F2 := Lib.hid (F2.out.same2 (by have := hb6.size; (try simp at this); omega) (fun b o e hl => by cases e; exact (hb6.block _ (by first | omega | (simp; omega)))))
  have F3 := Lib.hid (F3.out.same2 (by have := hb6.size; (try simp at this); omega) (fun b o e hl => by cases e; exact (hb6.block _ (by first | omega | (simp; omega)))))
  have F4 := Lib.hid (F4.out.same2 (by have := hb6.size; (try simp at this); omega) (fun b o e hl => by cases e; exact (hb6.block _ (by first | omega | (simp; omega)))))
  have F5 := Lib.hid (F5.out.same2 (by have := hb6.size; (try simp at this); omega) (fun b o e hl => by cases e; exact (hb6.block _ (by first | omega | (simp; omega)))))
  have F6 := Lib.hid (F6.out.same2 (by have := hb6.size; (try simp at this); omega) (fun b o e hl => by cases e; exact (hb6.block _ (by first | omega | (simp; omega)))))
  clear a41 a42 a43 a44
  clear kA kR kB hb6 HB zW
  have kA := kA6
  have kR := kR6
  have kB := kB6
  have HB := HB6
  have zW := zW6
  clear kA6 kR6 kB6 HB6 zW6
  have b41 : w6.cell? ⟨w.heap.size + 1 + 1, 41, none⟩ = some (.float .f32 0) := blk_cell kB rfl
  have b42 : w6.cell? ⟨w.heap.size + 1 + 1, 42, none⟩ = some (.float .f32 0) := blk_cell kB rfl
  have b43 : w6.cell? ⟨w.heap.size + 1 + 1, 43, none⟩ = some (.float .f32 0) := blk_cell kB rfl
  have b44 : w6.cell? ⟨w.heap.size + 1 + 1, 44, none⟩ = some (.float .f32 0) := blk_cell kB rfl
  have u41 : w6.frozen? ⟨w.heap.size + 1 + 1, 41, none⟩ = false := blk_free kB 41
  have u42 : w6.frozen? ⟨w.heap.size + 1 + 1, 42, none⟩ = false := blk_free kB 42
  have u43 : w6.frozen? ⟨w.heap.size + 1 + 1, 43, none⟩ = false := blk_free kB 43
  have u44 : w6.frozen? ⟨w.heap.size + 1 + 1, 44, none⟩ = false := blk_free kB 44
  go_upto_region 8 with fail
  clear b41 b42 b43 b44 u41 u42 u43 u44
  refine wp_named ?_
  intro V6 hV6
  have kB6 : V6.heap[w.heap.size + 1 + 1]? = some (.cells #[.slice (some ⟨g0, 0, none⟩) r.e.n r.e.n, .int .i64 r.e.i, .slice (some ⟨gt, 0, none⟩) r.tn r.tn, .slice (some ⟨g1, 0, none⟩) r.c0.n r.c0.n, .int .i64 r.c0.i, .float .f32 r.g0, .slice (some ⟨g2, 0, none⟩) r.c1.n r.c1.n, .int .i64 r.c1.i, .float .f32 r.g1, .slice (some ⟨g3, 0, none⟩) r.l0.n r.l0.n, .int .i64 r.l0.i, .slice (some ⟨g4, 0, none⟩) r.l1.n r.l1.n, .int .i64 r.l1.i, .slice (some ⟨g5, 0, none⟩) r.l2.n r.l2.n, .int .i64 r.l2.i, .slice (some ⟨g6, 0, none⟩) r.l3.n r.l3.n, .int .i64 r.l3.i, .int .i64 r.d0.k, .float .f32 r.d0.f0, .float .f32 r.d0.f1, .float .f32 r.d0.f2, .float .f32 r.d0.f3, .float .f32 r.d0.f4, .int .i64 r.d1.k, .float .f32 r.d1.f0, .float .f32 r.d1.f1, .float .f32 r.d1.f2, .float .f32 r.d1.f3, .float .f32 r.d1.f4, .int .i64 r.d2.k, .float .f32 r.d2.f0, .float .f32 r.d2.f1, .float .f32 r.d2.f2, .float .f32 r.d2.f3, .float .f32 r.d2.f4, .int .i64 r.d3.k, .float .f32 r.d3.f0, .float .f32 r.d3.f1, .float .f32 r.d3.f2, .float .f32 r.d3.f3, .float .f32 r.d3.f4, .float .f32 r.h0, .float .f32 r.h1, .float .f32 r.h2, .float .f32 r.h3, .float .f32 0, .float .f32 0] 51) := by
    rw [hV6, show (#[.slice (some ⟨g0, 0, none⟩) r.e.n r.e.n, .int .i64 r.e.i, .slice (some ⟨gt, 0, none⟩) r.tn r.tn, .slice (some ⟨g1, 0, none⟩) r.c0.n r.c0.n, .int .i64 r.c0.i, .float .f32 r.g0, .slice (some ⟨g2, 0, none⟩) r.c1.n r.c1.n, .int .i64 r.c1.i, .float .f32 r.g1, .slice (some ⟨g3, 0, none⟩) r.l0.n r.l0.n, .int .i64 r.l0.i, .slice (some ⟨g4, 0, none⟩) r.l1.n r.l1.n, .int .i64 r.l1.i, .slice (some ⟨g5, 0, none⟩) r.l2.n r.l2.n, .int .i64 r.l2.i, .slice (some ⟨g6, 0, none⟩) r.l3.n r.l3.n, .int .i64 r.l3.i, .int .i64 r.d0.k, .float .f32 r.d0.f0, .float .f32 r.d0.f1, .float .f32 r.d0.f2, .float .f32 r.d0.f3, .float .f32 r.d0.f4, .int .i64 r.d1.k, .float .f32 r.d1.f0, .float .f32 r.d1.f1, .float .f32 r.d1.f2, .float .f32 r.d1.f3, .float .f32 r.d1.f4, .int .i64 r.d2.k, .float .f32 r.d2.f0, .float .f32 r.d2.f1, .float .f32 r.d2.f2, .float .f32 r.d2.f3, .float .f32 r.d2.f4, .int .i64 r.d3.k, .float .f32 r.d3.f0, .float .f32 r.d3.f1, .float .f32 r.d3.f2, .float .f32 r.d3.f3, .float .f32 r.d3.f4, .float .f32 r.h0, .float .f32 r.h1, .float .f32 r.h2, .float .f32 r.h3, .float .f32 0, .float .f32 0] : Array Value) = ((((#[.slice (some ⟨g0, 0, none⟩) r.e.n r.e.n, .int .i64 r.e.i, .slice (some ⟨gt, 0, none⟩) r.tn r.tn, .slice (some ⟨g1, 0, none⟩) r.c0.n r.c0.n, .int .i64 r.c0.i, .float .f32 r.g0, .slice (some ⟨g2, 0, none⟩) r.c1.n r.c1.n, .int .i64 r.c1.i, .float .f32 r.g1, .slice (some ⟨g3, 0, none⟩) r.l0.n r.l0.n, .int .i64 r.l0.i, .slice (some ⟨g4, 0, none⟩) r.l1.n r.l1.n, .int .i64 r.l1.i, .slice (some ⟨g5, 0, none⟩) r.l2.n r.l2.n, .int .i64 r.l2.i, .slice (some ⟨g6, 0, none⟩) r.l3.n r.l3.n, .int .i64 r.l3.i, .int .i64 r.d0.k, .float .f32 r.d0.f0, .float .f32 r.d0.f1, .float .f32 r.d0.f2, .float .f32 r.d0.f3, .float .f32 r.d0.f4, .int .i64 r.d1.k, .float .f32 r.d1.f0, .float .f32 r.d1.f1, .float .f32 r.d1.f2, .float .f32 r.d1.f3, .float .f32 r.d1.f4, .int .i64 r.d2.k, .float .f32 r.d2.f0, .float .f32 r.d2.f1, .float .f32 r.d2.f2, .float .f32 r.d2.f3, .float .f32 r.d2.f4, .int .i64 r.d3.k, .float .f32 r.d3.f0, .float .f32 r.d3.f1, .float .f32 r.d3.f2, .float .f32 r.d3.f3, .float .f32 r.d3.f4, .float .f32 0, .float .f32 0, .float .f32 0, .float .f32 0, .float .f32 0, .float .f32 0]).setIfInBounds 41 (.float .f32 r.h0)).setIfInBounds 42 (.float .f32 r.h1)).setIfInBounds 43 (.float .f32 r.h2)).setIfInBounds 44 (.float .f32 r.h3) by kernel_rfl]
    exact (blk_set_cs (blk_set_cs (blk_set_cs (blk_set_cs kB _ _) _ _) _ _) _ _)
  have kA6 : V6.heap[w.heap.size]? = some (.cells r.cells 77) := by rw [hV6]; exact ((Below.heap_setCell _ _ _ _ (show w.heap.size ≠ w.heap.size + 1 + 1 by omega)).trans ((Below.heap_setCell _ _ _ _ (show w.heap.size ≠ w.heap.size + 1 + 1 by omega)).trans ((Below.heap_setCell _ _ _ _ (show w.heap.size ≠ w.heap.size + 1 + 1 by omega)).trans (Below.heap_setCell _ _ _ _ (show w.heap.size ≠ w.heap.size + 1 + 1 by omega))))).trans kA
  have kR6 : V6.heap[w.heap.size + 1]? = some (.cells #[.slice none 0 0, .int .i64 0, .slice none 0 0, .slice none 0 0, .int .i64 0, .float .f32 0, .slice none 0 0, .int .i64 0, .float .f32 0, .slice none 0 0, .int .i64 0, .slice none 0 0, .int .i64 0, .slice none 0 0, .int .i64 0, .slice none 0 0, .int .i64 0, .int .i64 0, .float .f32 0, .float .f32 0, .float .f32 0, .float .f32 0, .float .f32 0, .int .i64 0, .float .f32 0, .float .f32 0, .float .f32 0, .float .f32 0, .float .f32 0, .int .i64 0, .float .f32 0, .float .f32 0, .float .f32 0, .float .f32 0, .float .f32 0, .int .i64 0, .float .f32 0, .float .f32 0, .float .f32 0, .float .f32 0, .float .f32 0, .float .f32 0, .float .f32 0, .float .f32 0, .float .f32 0, .float .f32 0, .float .f32 0] 51) := by rw [hV6]; exact ((Below.heap_setCell _ _ _ _ (show w.heap.size + 1 ≠ w.heap.size + 1 + 1 by omega)).trans ((Below.heap_setCell _ _ _ _ (show w.heap.size + 1 ≠ w.heap.size + 1 + 1 by omega)).trans ((Below.heap_setCell _ _ _ _ (show w.heap.size + 1 ≠ w.heap.size + 1 + 1 by omega)).trans (Below.heap_setCell _ _ _ _ (show w.heap.size + 1 ≠ w.heap.size + 1 + 1 by omega))))).trans kR
  have zW6 : w.heap.size + 3 ≤ V6.heap.size := by rw [hV6]; simp; omega
  have zV6 : w6.heap.size ≤ V6.heap.size := by rw [hV6]; simp
  have HB6 : Hid (Below w.heap.size w V6) := by
    have hbx := HB.out
    show Below _ _ _
    rw [hV6]
    (repeat (first | (with_reducible refine Below.drewN ?_) | (with_reducible refine Below.drew ?_) | ((with_reducible refine Below.alloc ?_ ?_ _); rotate_left; (first | omega | (simp <;> omega))) | ((with_reducible refine Below.setCell ?_ ?_ _); rotate_left; (first | omega | (simp <;> omega))) | (with_reducible exact Below.refl _ _) | (with_reducible assumption)))
  have F0 := Lib.hid (F0.out.same2 zV6 (fun b o e hl => by cases e; rw [hV6]; exact ((Below.heap_setCell _ _ _ _ (show g0 ≠ w.heap.size + 1 + 1 by omega)).trans ((Below.heap_setCell _ _ _ _ (show g0 ≠ w.heap.size + 1 + 1 by omega)).trans ((Below.heap_setCell _ _ _ _ (show g0 ≠ w.heap.size + 1 + 1 by omega)).trans (Below.heap_setCell _ _ _ _ (show g0 ≠ w.heap.size + 1 + 1 by omega)))))))
  have Ft := Lib.hid (Ft.out.same2 zV6 (fun b o e hl => by cases e; rw [hV6]; exact ((Below.heap_setCell _ _ _ _ (show gt ≠ w.heap.size + 1 + 1 by omega)).trans ((Below.heap_setCell _ _ _ _ (show gt ≠ w.heap.size + 1 + 1 by omega)).trans ((Below.heap_setCell _ _ _ _ (show gt ≠ w.heap.size + 1 + 1 by omega)).trans (Below.heap_setCell _ _ _ _ (show gt ≠ w.heap.size + 1 + 1 by omega)))))))
  have F1 := Lib.hid (F1.out.same2 zV6 (fun b o e hl => by cases e; rw [hV6]; exact ((Below.heap_setCell _ _ _ _ (show g1 ≠ w.heap.size + 1 + 1 by omega)).trans ((Below.heap_setCell _ _ _ _ (show g1 ≠ w.heap.size + 1 + 1 by omega)).trans ((Below.heap_setCell _ _ _ _ (show g1 ≠ w.heap.size + 1 + 1 by omega)).trans (Below.heap_setCell _ _ _ _ (show g1 ≠ w.heap.size + 1 + 1 by omega)))))))
  have F2 := Lib.hid (F2.out.same2 zV6 (fun b o e hl => by cases e; rw [hV6]; exact ((Below.heap_setCell _ _ _ _ (show g2 ≠ w.heap.size + 1 + 1 by omega)).trans ((Below.heap_setCell _ _ _ _ (show g2 ≠ w.heap.size + 1 + 1 by omega)).trans ((Below.heap_setCell _ _ _ _ (show g2 ≠ w.heap.size + 1 + 1 by omega)).trans (Below.heap_setCell _ _ _ _ (show g2 ≠ w.heap.size + 1 + 1 by omega)))))))
  have F3 := Lib.hid (F3.out.same2 zV6 (fun b o e hl => by cases e; rw [hV6]; exact ((Below.heap_setCell _ _ _ _ (show g3 ≠ w.heap.size + 1 + 1 by omega)).trans ((Below.heap_setCell _ _ _ _ (show g3 ≠ w.heap.size + 1 + 1 by omega)).trans ((Below.heap_setCell _ _ _ _ (show g3 ≠ w.heap.size + 1 + 1 by omega)).trans (Below.heap_setCell _ _ _ _ (show g3 ≠ w.heap.size + 1 + 1 by omega)))))))
  have F4 := Lib.hid (F4.out.same2 zV6 (fun b o e hl => by cases e; rw [hV6]; exact ((Below.heap_setCell _ _ _ _ (show g4 ≠ w.heap.size + 1 + 1 by omega)).trans ((Below.heap_setCell _ _ _ _ (show g4 ≠ w.heap.size + 1 + 1 by omega)).trans ((Below.heap_setCell _ _ _ _ (show g4 ≠ w.heap.size + 1 + 1 by omega)).trans (Below.heap_setCell _ _ _ _ (show g4 ≠ w.heap.size + 1 + 1 by omega)))))))
  have F5 := Lib.hid (F5.out.same2 zV6 (fun b o e hl => by cases e; rw [hV6]; exact ((Below.heap_setCell _ _ _ _ (show g5 ≠ w.heap.size + 1 + 1 by omega)).trans ((Below.heap_setCell _ _ _ _ (show g5 ≠ w.heap.size + 1 + 1 by omega)).trans ((Below.heap_setCell _ _ _ _ (show g5 ≠ w.heap.size + 1 + 1 by omega)).trans (Below.heap_setCell _ _ _ _ (show g5 ≠ w.heap.size + 1 + 1 by omega)))))))
  have F6 := Lib.hid (F6.out.same2 zV6 (fun b o e hl => by cases e; rw [hV6]; exact ((Below.heap_setCell _ _ _ _ (show g6 ≠ w.heap.size + 1 + 1 by omega)).trans ((Below.heap_setCell _ _ _ _ (show g6 ≠ w.heap.size + 1 + 1 by omega)).trans ((Below.heap_setCell _ _ _ _ (show g6 ≠ w.heap.size + 1 + 1 by omega)).trans (Below.heap_setCell _ _ _ _ (show g6 ≠ w.heap.size + 1 + 1 by omega)))))))
  clear hV6 kA kR kB HB zW zV6
  have kA := kA6
  have kR := kR6
  have kB := kB6
  have HB := HB6
  have zW := zW6
  clear kA6 kR6 kB6 HB6 zW6
  have a45 : V6.cell? ⟨w.heap.size, 45, none⟩ = some (.float .f32 r.dry) := blk_cell kA rfl
  have b45 : V6.cell? ⟨w.heap.size + 1 + 1, 45, none⟩ = some (.float .f32 0) := blk_cell kB rfl
  have u45 : V6.frozen? ⟨w.heap.size + 1 + 1, 45, none⟩ = false := blk_free kB 45
  have a46 : V6.cell? ⟨w.heap.size, 46, none⟩ = some (.float .f32 r.wet) := blk_cell kA rfl
  have b46 : V6.cell? ⟨w.heap.size + 1 + 1, 46, none⟩ = some (.float .f32 0) := blk_cell kB rfl
  have u46 : V6.frozen? ⟨w.heap.size + 1 + 1, 46, none⟩ = false := blk_free kB 46
  go_upto_region 10 with fail
  refine wp_named ?_
  intro W hW
  have kB1 : W.heap[w.heap.size + 1 + 1]? = some (.cells #[.slice (some ⟨g0, 0, none⟩) r.e.n r.e.n, .int .i64 r.e.i, .slice (some ⟨gt, 0, none⟩) r.tn r.tn, .slice (some ⟨g1, 0, none⟩) r.c0.n r.c0.n, .int .i64 r.c0.i, .float .f32 r.g0, .slice (some ⟨g2, 0, none⟩) r.c1.n r.c1.n, .int .i64 r.c1.i, .float .f32 r.g1, .slice (some ⟨g3, 0, none⟩) r.l0.n r.l0.n, .int .i64 r.l0.i, .slice (some ⟨g4, 0, none⟩) r.l1.n r.l1.n, .int .i64 r.l1.i, .slice (some ⟨g5, 0, none⟩) r.l2.n r.l2.n, .int .i64 r.l2.i, .slice (some ⟨g6, 0, none⟩) r.l3.n r.l3.n, .int .i64 r.l3.i, .int .i64 r.d0.k, .float .f32 r.d0.f0, .float .f32 r.d0.f1, .float .f32 r.d0.f2, .float .f32 r.d0.f3, .float .f32 r.d0.f4, .int .i64 r.d1.k, .float .f32 r.d1.f0, .float .f32 r.d1.f1, .float .f32 r.d1.f2, .float .f32 r.d1.f3, .float .f32 r.d1.f4, .int .i64 r.d2.k, .float .f32 r.d2.f0, .float .f32 r.d2.f1, .float .f32 r.d2.f2, .float .f32 r.d2.f3, .float .f32 r.d2.f4, .int .i64 r.d3.k, .float .f32 r.d3.f0, .float .f32 r.d3.f1, .float .f32 r.d3.f2, .float .f32 r.d3.f3, .float .f32 r.d3.f4, .float .f32 r.h0, .float .f32 r.h1, .float .f32 r.h2, .float .f32 r.h3, .float .f32 r.dry, .float .f32 r.wet] 51) := by
    rw [hW, show (#[.slice (some ⟨g0, 0, none⟩) r.e.n r.e.n, .int .i64 r.e.i, .slice (some ⟨gt, 0, none⟩) r.tn r.tn, .slice (some ⟨g1, 0, none⟩) r.c0.n r.c0.n, .int .i64 r.c0.i, .float .f32 r.g0, .slice (some ⟨g2, 0, none⟩) r.c1.n r.c1.n, .int .i64 r.c1.i, .float .f32 r.g1, .slice (some ⟨g3, 0, none⟩) r.l0.n r.l0.n, .int .i64 r.l0.i, .slice (some ⟨g4, 0, none⟩) r.l1.n r.l1.n, .int .i64 r.l1.i, .slice (some ⟨g5, 0, none⟩) r.l2.n r.l2.n, .int .i64 r.l2.i, .slice (some ⟨g6, 0, none⟩) r.l3.n r.l3.n, .int .i64 r.l3.i, .int .i64 r.d0.k, .float .f32 r.d0.f0, .float .f32 r.d0.f1, .float .f32 r.d0.f2, .float .f32 r.d0.f3, .float .f32 r.d0.f4, .int .i64 r.d1.k, .float .f32 r.d1.f0, .float .f32 r.d1.f1, .float .f32 r.d1.f2, .float .f32 r.d1.f3, .float .f32 r.d1.f4, .int .i64 r.d2.k, .float .f32 r.d2.f0, .float .f32 r.d2.f1, .float .f32 r.d2.f2, .float .f32 r.d2.f3, .float .f32 r.d2.f4, .int .i64 r.d3.k, .float .f32 r.d3.f0, .float .f32 r.d3.f1, .float .f32 r.d3.f2, .float .f32 r.d3.f3, .float .f32 r.d3.f4, .float .f32 r.h0, .float .f32 r.h1, .float .f32 r.h2, .float .f32 r.h3, .float .f32 r.dry, .float .f32 r.wet] : Array Value) = ((#[.slice (some ⟨g0, 0, none⟩) r.e.n r.e.n, .int .i64 r.e.i, .slice (some ⟨gt, 0, none⟩) r.tn r.tn, .slice (some ⟨g1, 0, none⟩) r.c0.n r.c0.n, .int .i64 r.c0.i, .float .f32 r.g0, .slice (some ⟨g2, 0, none⟩) r.c1.n r.c1.n, .int .i64 r.c1.i, .float .f32 r.g1, .slice (some ⟨g3, 0, none⟩) r.l0.n r.l0.n, .int .i64 r.l0.i, .slice (some ⟨g4, 0, none⟩) r.l1.n r.l1.n, .int .i64 r.l1.i, .slice (some ⟨g5, 0, none⟩) r.l2.n r.l2.n, .int .i64 r.l2.i, .slice (some ⟨g6, 0, none⟩) r.l3.n r.l3.n, .int .i64 r.l3.i, .int .i64 r.d0.k, .float .f32 r.d0.f0, .float .f32 r.d0.f1, .float .f32 r.d0.f2, .float .f32 r.d0.f3, .float .f32 r.d0.f4, .int .i64 r.d1.k, .float .f32 r.d1.f0, .float .f32 r.d1.f1, .float .f32 r.d1.f2, .float .f32 r.d1.f3, .float .f32 r.d1.f4, .int .i64 r.d2.k, .float .f32 r.d2.f0, .float .f32 r.d2.f1, .float .f32 r.d2.f2, .float .f32 r.d2.f3, .float .f32 r.d2.f4, .int .i64 r.d3.k, .float .f32 r.d3.f0, .float .f32 r.d3.f1, .float .f32 r.d3.f2, .float .f32 r.d3.f3, .float .f32 r.d3.f4, .float .f32 r.h0, .float .f32 r.h1, .float .f32 r.h2, .float .f32 r.h3, .float .f32 0, .float .f32 0]).setIfInBounds 45 (.float .f32 r.dry)).setIfInBounds 46 (.float .f32 r.wet) by kernel_rfl]
    exact (blk_set_cs (blk_set_cs kB _ _) _ _)
  have kR1 : W.heap[w.heap.size + 1]? = some (.cells #[.slice none 0 0, .int .i64 0, .slice none 0 0, .slice none 0 0, .int .i64 0, .float .f32 0, .slice none 0 0, .int .i64 0, .float .f32 0, .slice none 0 0, .int .i64 0, .slice none 0 0, .int .i64 0, .slice none 0 0, .int .i64 0, .slice none 0 0, .int .i64 0, .int .i64 0, .float .f32 0, .float .f32 0, .float .f32 0, .float .f32 0, .float .f32 0, .int .i64 0, .float .f32 0, .float .f32 0, .float .f32 0, .float .f32 0, .float .f32 0, .int .i64 0, .float .f32 0, .float .f32 0, .float .f32 0, .float .f32 0, .float .f32 0, .int .i64 0, .float .f32 0, .float .f32 0, .float .f32 0, .float .f32 0, .float .f32 0, .float .f32 0, .float .f32 0, .float .f32 0, .float .f32 0, .float .f32 0, .float .f32 0] 51) := by rw [hW]; exact ((Below.heap_setCell _ _ _ _ (show w.heap.size + 1 ≠ w.heap.size + 1 + 1 by omega)).trans (Below.heap_setCell _ _ _ _ (show w.heap.size + 1 ≠ w.heap.size + 1 + 1 by omega))).trans kR
  have BW : Below w.heap.size w W := by
    have hbx := HB.out
    rw [hW]
    (repeat (first | (with_reducible refine Below.drewN ?_) | (with_reducible refine Below.drew ?_) | ((with_reducible refine Below.alloc ?_ ?_ _); rotate_left; (first | omega | (simp <;> omega))) | ((with_reducible refine Below.setCell ?_ ?_ _); rotate_left; (first | omega | (simp <;> omega))) | (with_reducible exact Below.refl _ _) | (with_reducible assumption)))
  have zV : V6.heap.size ≤ W.heap.size := by rw [hW]; simp
  have F0 := F0.out.same2 zV (fun b o e hl => by cases e; rw [hW]; exact ((Below.heap_setCell _ _ _ _ (show g0 ≠ w.heap.size + 1 + 1 by omega)).trans (Below.heap_setCell _ _ _ _ (show g0 ≠ w.heap.size + 1 + 1 by omega))))
  have Ft := Ft.out.same2 zV (fun b o e hl => by cases e; rw [hW]; exact ((Below.heap_setCell _ _ _ _ (show gt ≠ w.heap.size + 1 + 1 by omega)).trans (Below.heap_setCell _ _ _ _ (show gt ≠ w.heap.size + 1 + 1 by omega))))
  have F1 := F1.out.same2 zV (fun b o e hl => by cases e; rw [hW]; exact ((Below.heap_setCell _ _ _ _ (show g1 ≠ w.heap.size + 1 + 1 by omega)).trans (Below.heap_setCell _ _ _ _ (show g1 ≠ w.heap.size + 1 + 1 by omega))))
  have F2 := F2.out.same2 zV (fun b o e hl => by cases e; rw [hW]; exact ((Below.heap_setCell _ _ _ _ (show g2 ≠ w.heap.size + 1 + 1 by omega)).trans (Below.heap_setCell _ _ _ _ (show g2 ≠ w.heap.size + 1 + 1 by omega))))
  have F3 := F3.out.same2 zV (fun b o e hl => by cases e; rw [hW]; exact ((Below.heap_setCell _ _ _ _ (show g3 ≠ w.heap.size + 1 + 1 by omega)).trans (Below.heap_setCell _ _ _ _ (show g3 ≠ w.heap.size + 1 + 1 by omega))))
  have F4 := F4.out.same2 zV (fun b o e hl => by cases e; rw [hW]; exact ((Below.heap_setCell _ _ _ _ (show g4 ≠ w.heap.size + 1 + 1 by omega)).trans (Below.heap_setCell _ _ _ _ (show g4 ≠ w.heap.size + 1 + 1 by omega))))
  have F5 := F5.out.same2 zV (fun b o e hl => by cases e; rw [hW]; exact ((Below.heap_setCell _ _ _ _ (show g5 ≠ w.heap.size + 1 + 1 by omega)).trans (Below.heap_setCell _ _ _ _ (show g5 ≠ w.heap.size + 1 + 1 by omega))))
  have F6 := F6.out.same2 zV (fun b o e hl => by cases e; rw [hW]; exact ((Below.heap_setCell _ _ _ _ (show g6 ≠ w.heap.size + 1 + 1 by omega)).trans (Below.heap_setCell _ _ _ _ (show g6 ≠ w.heap.size + 1 + 1 by omega))))
  clear a45 a46 b45 b46 u45 u46
  clear hW kA kB kR HB
  obtain ⟨L, hL⟩ : ∃ L : List Value, L = [.slice (some ⟨g0, 0, none⟩) r.e.n r.e.n, .int .i64 r.e.i, .slice (some ⟨gt, 0, none⟩) r.tn r.tn, .slice (some ⟨g1, 0, none⟩) r.c0.n r.c0.n, .int .i64 r.c0.i, .float .f32 r.g0, .slice (some ⟨g2, 0, none⟩) r.c1.n r.c1.n, .int .i64 r.c1.i, .float .f32 r.g1, .slice (some ⟨g3, 0, none⟩) r.l0.n r.l0.n, .int .i64 r.l0.i, .slice (some ⟨g4, 0, none⟩) r.l1.n r.l1.n, .int .i64 r.l1.i, .slice (some ⟨g5, 0, none⟩) r.l2.n r.l2.n, .int .i64 r.l2.i, .slice (some ⟨g6, 0, none⟩) r.l3.n r.l3.n, .int .i64 r.l3.i, .int .i64 r.d0.k, .float .f32 r.d0.f0, .float .f32 r.d0.f1, .float .f32 r.d0.f2, .float .f32 r.d0.f3, .float .f32 r.d0.f4, .int .i64 r.d1.k, .float .f32 r.d1.f0, .float .f32 r.d1.f1, .float .f32 r.d1.f2, .float .f32 r.d1.f3, .float .f32 r.d1.f4, .int .i64 r.d2.k, .float .f32 r.d2.f0, .float .f32 r.d2.f1, .float .f32 r.d2.f2, .float .f32 r.d2.f3, .float .f32 r.d2.f4, .int .i64 r.d3.k, .float .f32 r.d3.f0, .float .f32 r.d3.f1, .float .f32 r.d3.f2, .float .f32 r.d3.f3, .float .f32 r.d3.f4, .float .f32 r.h0, .float .f32 r.h1, .float .f32 r.h2, .float .f32 r.h3, .float .f32 r.dry, .float .f32 r.wet] := ⟨_, rfl⟩
  have kB2 : W.heap[w.heap.size + 1 + 1]? = some (.cells L.toArray 51) := by rw [hL]; exact kB1
  have hlen : L.length = 47 := by rw [hL]; kernel_rfl
  have hone : L.toArray.all (·.oneCell') = true := by rw [hL]; kernel_rfl
  have HL := Lib.hid hL
  clear hL
  have RG : W.rangeAt (w.heap.size + 1 + 1) 0 L := range_of_blk kB2
  have TH0 : W.there (w.heap.size + 1) 0 (#[.slice none 0 0, .int .i64 0, .slice none 0 0, .slice none 0 0, .int .i64 0, .float .f32 0, .slice none 0 0, .int .i64 0, .float .f32 0, .slice none 0 0, .int .i64 0, .slice none 0 0, .int .i64 0, .slice none 0 0, .int .i64 0, .slice none 0 0, .int .i64 0, .int .i64 0, .float .f32 0, .float .f32 0, .float .f32 0, .float .f32 0, .float .f32 0, .int .i64 0, .float .f32 0, .float .f32 0, .float .f32 0, .float .f32 0, .float .f32 0, .int .i64 0, .float .f32 0, .float .f32 0, .float .f32 0, .float .f32 0, .float .f32 0, .int .i64 0, .float .f32 0, .float .f32 0, .float .f32 0, .float .f32 0, .float .f32 0, .float .f32 0, .float .f32 0, .float .f32 0, .float .f32 0, .float .f32 0, .float .f32 0] : Array Value).size := there_of_blk kR1
  have TH : W.there (w.heap.size + 1) 0 L.length := by rw [hlen, ← show (#[.slice none 0 0, .int .i64 0, .slice none 0 0, .slice none 0 0, .int .i64 0, .float .f32 0, .slice none 0 0, .int .i64 0, .float .f32 0, .slice none 0 0, .int .i64 0, .slice none 0 0, .int .i64 0, .slice none 0 0, .int .i64 0, .slice none 0 0, .int .i64 0, .int .i64 0, .float .f32 0, .float .f32 0, .float .f32 0, .float .f32 0, .float .f32 0, .int .i64 0, .float .f32 0, .float .f32 0, .float .f32 0, .float .f32 0, .float .f32 0, .int .i64 0, .float .f32 0, .float .f32 0, .float .f32 0, .float .f32 0, .float .f32 0, .int .i64 0, .float .f32 0, .float .f32 0, .float .f32 0, .float .f32 0, .float .f32 0, .float .f32 0, .float .f32 0, .float .f32 0, .float .f32 0, .float .f32 0, .float .f32 0] : Array Value).size = 47 by kernel_rfl]; exact TH0
  have TS2 : W.there (w.heap.size + 1) 0 L.toArray.size := by rw [List.size_toArray]; exact TH
  have hR := Lib.hid (run_loadVar_mid (P := Try.prog) (W.setCells (w.heap.size + 1) 0 L) (w.heap.size + 1) 0 51 L _ (World.rangeAt_setCells_same _ _ _ _ TH) Try.underlying51 rfl (by rw [hlen]; kernel_rfl))
  have WR := wr_setCells (w.heap.size + 1) L 0 W
  clear kB1 kR1 kB2 TH0 TH
  have hi1 : (Try.prog.info? 51).map (·.size) = some L.length := by rw [hlen]; kernel_rfl
  have hi2 : (Try.prog.info? 51).map (·.size) = some L.toArray.size := by rw [List.size_toArray]; exact hi1
  refine wp_region_lit ?_
  refine wpList_load_mid rfl 51 _ rfl (w.heap.size + 1 + 1) 0 rfl L _ RG Try.underlying51 rfl hi1 ?_
  refine wpList_store_mid rfl 51 _ _ rfl (w.heap.size + 1) 0 L.toArray rfl rfl TS2 hi2 hone ?_
  clear hlen hone RG TS2 hi1 hi2
  go_wp2
  refine bodyPost_ret (v := .agg L.toArray) (results_cell Try.results35 rfl hR.out) rfl ?_
  have BE : Below w.heap.size w (W.setCells (w.heap.size + 1) 0 L) := BW.trans (WR.below (by have := BW.size; omega) (by simp))
  have F0 := F0.same2 WR.size (fun b o e hl => by cases e; exact WR.block _ hl (by simp; omega))
  have Ft := Ft.same2 WR.size (fun b o e hl => by cases e; exact WR.block _ hl (by simp; omega))
  have F1 := F1.same2 WR.size (fun b o e hl => by cases e; exact WR.block _ hl (by simp; omega))
  have F2 := F2.same2 WR.size (fun b o e hl => by cases e; exact WR.block _ hl (by simp; omega))
  have F3 := F3.same2 WR.size (fun b o e hl => by cases e; exact WR.block _ hl (by simp; omega))
  have F4 := F4.same2 WR.size (fun b o e hl => by cases e; exact WR.block _ hl (by simp; omega))
  have F5 := F5.same2 WR.size (fun b o e hl => by cases e; exact WR.block _ hl (by simp; omega))
  have F6 := F6.same2 WR.size (fun b o e hl => by cases e; exact WR.block _ hl (by simp; omega))
  have hL := HL.out
  exact ⟨{ r with e := ⟨some ⟨g0, 0, none⟩, r.e.n, r.e.n, r.e.xs, r.e.i⟩, ta := some ⟨gt, 0, none⟩, tc := r.tn, c0 := ⟨some ⟨g1, 0, none⟩, r.c0.n, r.c0.n, r.c0.xs, r.c0.i⟩, c1 := ⟨some ⟨g2, 0, none⟩, r.c1.n, r.c1.n, r.c1.xs, r.c1.i⟩, l0 := ⟨some ⟨g3, 0, none⟩, r.l0.n, r.l0.n, r.l0.xs, r.l0.i⟩, l1 := ⟨some ⟨g4, 0, none⟩, r.l1.n, r.l1.n, r.l1.xs, r.l1.i⟩, l2 := ⟨some ⟨g5, 0, none⟩, r.l2.n, r.l2.n, r.l2.xs, r.l2.i⟩, l3 := ⟨some ⟨g6, 0, none⟩, r.l3.n, r.l3.n, r.l3.xs, r.l3.i⟩ }, by rw [hL]; kernel_rfl, BE, ⟨F0, F1, F2, F3, F4, F5, F6, Ft⟩, rfl⟩


end Go.Proofs.Ytfhegjjgfaeinaa
