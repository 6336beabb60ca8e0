
/-
New rooms: marks and equality.
-/
import Derived.Test.YtfhegjjgfaeinaaNa
import Derived.Test.YtfhegjjgfaeinaaYl
namespace Go.Proofs.Ytfhegjjgfaeinaa
open Go Go.RowKit Fl
/-- a room whose memory is its own -/
def RO (w : World) (B : Nat) (r : Rv) : Prop := ∃ g0 g1 g2 g3 g4 g5 g6 : Nat, (B ≤ g0 ∧ g0 < g1 ∧ g1 < g2 ∧ g2 < g3 ∧ g3 < g4 ∧ g4 < g5 ∧ g5 < g6) ∧ ((0 < r.e.n → g0 < w.heap.size) ∧ (0 < r.c0.n → g1 < w.heap.size) ∧ (0 < r.c1.n → g2 < w.heap.size) ∧ (0 < r.l0.n → g3 < w.heap.size) ∧ (0 < r.l1.n → g4 < w.heap.size) ∧ (0 < r.l2.n → g5 < w.heap.size) ∧ (0 < r.l3.n → g6 < w.heap.size)) ∧ (OF w g0 r.e.a r.e.n r.e.c r.e.xs ∧ OF w g1 r.c0.a r.c0.n r.c0.c r.c0.xs ∧ OF w g2 r.c1.a r.c1.n r.c1.c r.c1.xs ∧ OF w g3 r.l0.a r.l0.n r.l0.c r.l0.xs ∧ OF w g4 r.l1.a r.l1.n r.l1.c r.l1.xs ∧ OF w g5 r.l2.a r.l2.n r.l2.c r.l2.xs ∧ OF w g6 r.l3.a r.l3.n r.l3.c r.l3.xs) ∧ r.tn = 0 ∧ r.tc = 0
theorem TS.nil {w : World} {a : Option Addr} {n c : Nat} {ts : List (Int × Nat)} (h : n = 0) (hc : c = 0) : TS w a n c ts := ⟨by omega, by omega, fun h => absurd h (by omega)⟩
theorem RO.m {w : World} {B : Nat} {r : Rv} (h : RO w B r) : RvM w r := by
  obtain ⟨g0, g1, g2, g3, g4, g5, g6, _, _, ⟨o0, o1, o2, o3, o4, o5, o6⟩, h1, h2⟩ := h
  exact ⟨o0.fs, o1.fs, o2.fs, o3.fs, o4.fs, o5.fs, o6.fs, TS.nil h1 h2⟩
theorem RO.below {w w' : World} {B : Nat} {r : Rv} (h : RO w B r) (hb : Below w.heap.size w w') : RO w' B r := by
  obtain ⟨g0, g1, g2, g3, g4, g5, g6, hc, ⟨b0, b1, b2, b3, b4, b5, b6⟩, ⟨o0, o1, o2, o3, o4, o5, o6⟩, h1, h2⟩ := h
  have hs := hb.size
  exact ⟨g0, g1, g2, g3, g4, g5, g6, hc, ⟨fun h => Nat.lt_of_lt_of_le (b0 h) hs, fun h => Nat.lt_of_lt_of_le (b1 h) hs, fun h => Nat.lt_of_lt_of_le (b2 h) hs, fun h => Nat.lt_of_lt_of_le (b3 h) hs, fun h => Nat.lt_of_lt_of_le (b4 h) hs, fun h => Nat.lt_of_lt_of_le (b5 h) hs, fun h => Nat.lt_of_lt_of_le (b6 h) hs⟩, ⟨o0.old hb, o1.old hb, o2.old hb, o3.old hb, o4.old hb, o5.old hb, o6.old hb⟩, h1, h2⟩
/-- a room behind the marks -/
def Rv.mkd (r : Rv) : Rv := { r with e := ⟨r.e.a, r.e.n, r.e.c, marks ((1 : Int)) r.e.n, r.e.i⟩, c0 := ⟨r.c0.a, r.c0.n, r.c0.c, marks ((1 : Int) + (r.e.n : Int)) r.c0.n, r.c0.i⟩, c1 := ⟨r.c1.a, r.c1.n, r.c1.c, marks ((1 : Int) + (r.e.n : Int) + (r.c0.n : Int)) r.c1.n, r.c1.i⟩, l0 := ⟨r.l0.a, r.l0.n, r.l0.c, marks ((1 : Int) + (r.e.n : Int) + (r.c0.n : Int) + (r.c1.n : Int)) r.l0.n, r.l0.i⟩, l1 := ⟨r.l1.a, r.l1.n, r.l1.c, marks ((1 : Int) + (r.e.n : Int) + (r.c0.n : Int) + (r.c1.n : Int) + (r.l0.n : Int)) r.l1.n, r.l1.i⟩, l2 := ⟨r.l2.a, r.l2.n, r.l2.c, marks ((1 : Int) + (r.e.n : Int) + (r.c0.n : Int) + (r.c1.n : Int) + (r.l0.n : Int) + (r.l1.n : Int)) r.l2.n, r.l2.i⟩, l3 := ⟨r.l3.a, r.l3.n, r.l3.c, marks ((1 : Int) + (r.e.n : Int) + (r.c0.n : Int) + (r.c1.n : Int) + (r.l0.n : Int) + (r.l1.n : Int) + (r.l2.n : Int)) r.l3.n, r.l3.i⟩ }
def Rv.sum (r : Rv) : Int := (1 : Int) + (r.e.n : Int) + (r.c0.n : Int) + (r.c1.n : Int) + (r.l0.n : Int) + (r.l1.n : Int) + (r.l2.n : Int) + (r.l3.n : Int)
set_option maxRecDepth 100000 in
set_option maxHeartbeats 400000 in
theorem c_markRoom (r : Rv) (B : Nat) (W0 w : World) (h : RO W0 B r) (hb0 : Below W0.heap.size W0 w) (hk : r.sum ≤ 1099511627776) :
    Calls Try.prog 22 #[.agg r.cells, .int .i64 1] w (fun e w' => e = .returned (.int .i64 r.sum) ∧ ∃ G : List Nat, Wr G w w' ∧ (∀ x ∈ G, B ≤ x ∧ x < W0.heap.size) ∧ RvM w' r.mkd) := by
  obtain ⟨g0, g1, g2, g3, g4, g5, g6, ⟨u0, u1, u2, u3, u4, u5, u6⟩, ⟨b0, b1, b2, b3, b4, b5, b6⟩, ⟨o0, o1, o2, o3, o4, o5, o6⟩, tz, tc⟩ := h
  unfold Rv.sum at hk ⊢
  have TZ := Lib.hid tz
  have TC := Lib.hid tc
  clear tz tc
  have H0 := Lib.hid (o0.old hb0)
  clear o0
  have H1 := Lib.hid (o1.old hb0)
  clear o1
  have H2 := Lib.hid (o2.old hb0)
  clear o2
  have H3 := Lib.hid (o3.old hb0)
  clear o3
  have H4 := Lib.hid (o4.old hb0)
  clear o4
  have H5 := Lib.hid (o5.old hb0)
  clear o5
  have H6 := Lib.hid (o6.old hb0)
  clear o6
  have hs0 := hb0.size
  clear hb0
  go_enter Try.func22, Try.ntmps22
  go_upto_region 1 with fail
  refine wp_named ?_
  intro w0 hW0
  have kA : w0.heap[w.heap.size]? = some (.cells r.cells 51) := by rw [hW0]; exact (MapKept.heap_alloc w _).1
  have bW : Below w.heap.size w w0 := by rw [hW0]; (repeat (first | (with_reducible refine Below.drewN ?_) | (with_reducible refine Below.drew ?_) | ((with_reducible refine Below.alloc ?_ ?_ _); rotate_left; (first | omega | (simp <;> omega))) | ((with_reducible refine Below.setCell ?_ ?_ _); rotate_left; (first | omega | (simp <;> omega))) | (with_reducible exact Below.refl _ _) | (with_reducible assumption)))
  clear hW0
  have H0 := Lib.hid (H0.out.below bW (Nat.le_refl _))
  have H1 := Lib.hid (H1.out.below bW (Nat.le_refl _))
  have H2 := Lib.hid (H2.out.below bW (Nat.le_refl _))
  have H3 := Lib.hid (H3.out.below bW (Nat.le_refl _))
  have H4 := Lib.hid (H4.out.below bW (Nat.le_refl _))
  have H5 := Lib.hid (H5.out.below bW (Nat.le_refl _))
  have H6 := Lib.hid (H6.out.below bW (Nat.le_refl _))
  have R0 : Hid (Wr [] w w0) := Wr.of_below bW
  clear bW
  have zW : w.heap.size < w0.heap.size := (Array.getElem?_eq_some_iff.1 kA).1
  have a0 : w0.cell? ⟨w.heap.size, 0, none⟩ = some (.slice r.e.a r.e.n r.e.c) := blk_cell kA rfl
  have a1 : w0.cell? ⟨w.heap.size, 1, none⟩ = some (.int .i64 r.e.i) := blk_cell kA rfl
  go_wp2_with fail
  refine (c_markRing' g0 r.e.a r.e.n r.e.c r.e.xs r.e.i (1) _ H0.out (fun h => Nat.lt_trans (Nat.lt_of_lt_of_le (b0 h) hs0) zW) (by omega) (by omega)).mono ?_
  rintro e w1 ⟨rfl, wr, of0⟩
  have kA1 := (wr.block _ zW (by simp only [mem_gl]; omega)).trans kA
  have H0 := Lib.hid of0
  clear of0
  have H1 := Lib.hid (OF.wr0 H1.out wr (fun _ => by simp only [mem_gl]; omega))
  have H2 := Lib.hid (OF.wr0 H2.out wr (fun _ => by simp only [mem_gl]; omega))
  have H3 := Lib.hid (OF.wr0 H3.out wr (fun _ => by simp only [mem_gl]; omega))
  have H4 := Lib.hid (OF.wr0 H4.out wr (fun _ => by simp only [mem_gl]; omega))
  have H5 := Lib.hid (OF.wr0 H5.out wr (fun _ => by simp only [mem_gl]; omega))
  have H6 := Lib.hid (OF.wr0 H6.out wr (fun _ => by simp only [mem_gl]; omega))
  have R1 := Lib.hid (R0.out.trans wr)
  have zW1 := Nat.lt_of_lt_of_le zW wr.size
  clear wr kA R0 zW a0 a1
  have kA := kA1
  have R0 := R1
  have zW := zW1
  clear kA1 R1 zW1
  have a2 : w1.cell? ⟨w.heap.size, 2, none⟩ = some (.slice r.ta r.tn r.tc) := blk_cell kA rfl
  go_wp2_with fail
  refine (c_markTapS0 r.ta r.tn r.tc (1 + (r.e.n : Int)) _ TZ.out).mono ?_
  rintro e w2 ⟨rfl, hb⟩
  have wr : Wr [] _ _ := Wr.of_below hb
  clear hb
  have kA1 := (wr.block _ zW (by simp; done)).trans kA
  have H0 := Lib.hid (OF.wr0 H0.out wr (fun _ => by simp; done))
  have H1 := Lib.hid (OF.wr0 H1.out wr (fun _ => by simp; done))
  have H2 := Lib.hid (OF.wr0 H2.out wr (fun _ => by simp; done))
  have H3 := Lib.hid (OF.wr0 H3.out wr (fun _ => by simp; done))
  have H4 := Lib.hid (OF.wr0 H4.out wr (fun _ => by simp; done))
  have H5 := Lib.hid (OF.wr0 H5.out wr (fun _ => by simp; done))
  have H6 := Lib.hid (OF.wr0 H6.out wr (fun _ => by simp; done))
  have R1 := Lib.hid (R0.out.trans wr)
  have zW1 := Nat.lt_of_lt_of_le zW wr.size
  clear wr kA R0 zW a2
  have kA := kA1
  have R0 := R1
  have zW := zW1
  clear kA1 R1 zW1
  have a3 : w2.cell? ⟨w.heap.size, 3, none⟩ = some (.slice r.c0.a r.c0.n r.c0.c) := blk_cell kA rfl
  have a4 : w2.cell? ⟨w.heap.size, 4, none⟩ = some (.int .i64 r.c0.i) := blk_cell kA rfl
  have a5 : w2.cell? ⟨w.heap.size, 5, none⟩ = some (.float .f32 r.g0) := blk_cell kA rfl
  have a6 : w2.cell? ⟨w.heap.size, 6, none⟩ = some (.slice r.c1.a r.c1.n r.c1.c) := blk_cell kA rfl
  have a7 : w2.cell? ⟨w.heap.size, 7, none⟩ = some (.int .i64 r.c1.i) := blk_cell kA rfl
  have a8 : w2.cell? ⟨w.heap.size, 8, none⟩ = some (.float .f32 r.g1) := blk_cell kA rfl
  go_wp2_with fail
  refine (c_markCombA2 r.c0 r.c1 r.g0 r.g1 g1 g2 (1 + (r.e.n : Int)) _ H1.out (fun h => Nat.lt_trans (Nat.lt_of_lt_of_le (b1 h) hs0) zW) H2.out (fun h => Nat.lt_trans (Nat.lt_of_lt_of_le (b2 h) hs0) zW) (by omega) (by omega) (by omega)).mono ?_
  rintro e w3 ⟨rfl, wr, of1, of2⟩
  have kA1 := (wr.block _ zW (by simp only [List.mem_append, mem_gl]; omega)).trans kA
  have H0 := Lib.hid (OF.wr0 H0.out wr (fun _ => by simp only [List.mem_append, mem_gl]; omega))
  have H1 := Lib.hid of1
  clear of1
  have H2 := Lib.hid of2
  clear of2
  have H3 := Lib.hid (OF.wr0 H3.out wr (fun _ => by simp only [List.mem_append, mem_gl]; omega))
  have H4 := Lib.hid (OF.wr0 H4.out wr (fun _ => by simp only [List.mem_append, mem_gl]; omega))
  have H5 := Lib.hid (OF.wr0 H5.out wr (fun _ => by simp only [List.mem_append, mem_gl]; omega))
  have H6 := Lib.hid (OF.wr0 H6.out wr (fun _ => by simp only [List.mem_append, mem_gl]; omega))
  have R1 := Lib.hid (R0.out.trans wr)
  have zW1 := Nat.lt_of_lt_of_le zW wr.size
  clear wr kA R0 zW a3 a4 a5 a6 a7 a8
  have kA := kA1
  have R0 := R1
  have zW := zW1
  clear kA1 R1 zW1
  have a9 : w3.cell? ⟨w.heap.size, 9, none⟩ = some (.slice r.l0.a r.l0.n r.l0.c) := blk_cell kA rfl
  have a10 : w3.cell? ⟨w.heap.size, 10, none⟩ = some (.int .i64 r.l0.i) := blk_cell kA rfl
  have a11 : w3.cell? ⟨w.heap.size, 11, none⟩ = some (.slice r.l1.a r.l1.n r.l1.c) := blk_cell kA rfl
  have a12 : w3.cell? ⟨w.heap.size, 12, none⟩ = some (.int .i64 r.l1.i) := blk_cell kA rfl
  have a13 : w3.cell? ⟨w.heap.size, 13, none⟩ = some (.slice r.l2.a r.l2.n r.l2.c) := blk_cell kA rfl
  have a14 : w3.cell? ⟨w.heap.size, 14, none⟩ = some (.int .i64 r.l2.i) := blk_cell kA rfl
  have a15 : w3.cell? ⟨w.heap.size, 15, none⟩ = some (.slice r.l3.a r.l3.n r.l3.c) := blk_cell kA rfl
  have a16 : w3.cell? ⟨w.heap.size, 16, none⟩ = some (.int .i64 r.l3.i) := blk_cell kA rfl
  go_wp2_with fail
  refine (c_markRingA4 r.l0 r.l1 r.l2 r.l3 g3 g4 g5 g6 (1 + (r.e.n : Int) + (r.c0.n : Int) + (r.c1.n : Int)) _ H3.out (fun h => Nat.lt_trans (Nat.lt_of_lt_of_le (b3 h) hs0) zW) H4.out (fun h => Nat.lt_trans (Nat.lt_of_lt_of_le (b4 h) hs0) zW) H5.out (fun h => Nat.lt_trans (Nat.lt_of_lt_of_le (b5 h) hs0) zW) H6.out (fun h => Nat.lt_trans (Nat.lt_of_lt_of_le (b6 h) hs0) zW) (by omega) (by omega) (by omega) (by omega) (by omega) (by omega) (by omega) (by omega)).mono ?_
  rintro e w4 ⟨rfl, wr, of3, of4, of5, of6⟩
  have kA1 := (wr.block _ zW (by simp only [List.mem_append, mem_gl]; omega)).trans kA
  have H0 := Lib.hid (OF.wr0 H0.out wr (fun _ => by simp only [List.mem_append, mem_gl]; omega))
  have H1 := Lib.hid (OF.wr0 H1.out wr (fun _ => by simp only [List.mem_append, mem_gl]; omega))
  have H2 := Lib.hid (OF.wr0 H2.out wr (fun _ => by simp only [List.mem_append, mem_gl]; omega))
  have H3 := Lib.hid of3
  clear of3
  have H4 := Lib.hid of4
  clear of4
  have H5 := Lib.hid of5
  clear of5
  have H6 := Lib.hid of6
  clear of6
  have R1 := Lib.hid (R0.out.trans wr)
  have zW1 := Nat.lt_of_lt_of_le zW wr.size
  clear wr kA R0 zW a9 a10 a11 a12 a13 a14 a15 a16
  have kA := kA1
  have R0 := R1
  have zW := zW1
  clear kA1 R1 zW1
  clear kA
  go_wp2
  go_ret
  refine ⟨by congr 2, _, R0.out, (fun g hg => by simp only [List.mem_append, mem_gl, List.not_mem_nil, false_or, or_false] at hg; omega), ⟨H0.out.fs, H1.out.fs, H2.out.fs, H3.out.fs, H4.out.fs, H5.out.fs, H6.out.fs, TS.nil TZ.out TC.out⟩⟩
set_option maxRecDepth 100000 in
set_option maxHeartbeats 400000 in
theorem c_heldRoom (r : Rv) (w : World) (h : RvM w r.mkd) (tz : r.tn = 0) (hk : r.sum ≤ 1099511627776) :
    Calls Try.prog 23 #[.agg r.cells, .int .i64 1] w (RetV (.int .i64 r.sum) w) := by
  obtain ⟨o0, o1, o2, o3, o4, o5, o6, _⟩ := h
  unfold Rv.sum at hk ⊢
  have TZ := Lib.hid tz
  clear tz
  have H0 : Hid (FS w r.e.a r.e.n r.e.c (marks ((1 : Int)) r.e.n)) := o0
  clear o0
  have H1 : Hid (FS w r.c0.a r.c0.n r.c0.c (marks ((1 : Int) + (r.e.n : Int)) r.c0.n)) := o1
  clear o1
  have H2 : Hid (FS w r.c1.a r.c1.n r.c1.c (marks ((1 : Int) + (r.e.n : Int) + (r.c0.n : Int)) r.c1.n)) := o2
  clear o2
  have H3 : Hid (FS w r.l0.a r.l0.n r.l0.c (marks ((1 : Int) + (r.e.n : Int) + (r.c0.n : Int) + (r.c1.n : Int)) r.l0.n)) := o3
  clear o3
  have H4 : Hid (FS w r.l1.a r.l1.n r.l1.c (marks ((1 : Int) + (r.e.n : Int) + (r.c0.n : Int) + (r.c1.n : Int) + (r.l0.n : Int)) r.l1.n)) := o4
  clear o4
  have H5 : Hid (FS w r.l2.a r.l2.n r.l2.c (marks ((1 : Int) + (r.e.n : Int) + (r.c0.n : Int) + (r.c1.n : Int) + (r.l0.n : Int) + (r.l1.n : Int)) r.l2.n)) := o5
  clear o5
  have H6 : Hid (FS w r.l3.a r.l3.n r.l3.c (marks ((1 : Int) + (r.e.n : Int) + (r.c0.n : Int) + (r.c1.n : Int) + (r.l0.n : Int) + (r.l1.n : Int) + (r.l2.n : Int)) r.l3.n)) := o6
  clear o6
  go_enter Try.func23, Try.ntmps23
  go_upto_region 1 with fail
  refine wp_named ?_
  intro w0 hW0
  have kA : w0.heap[w.heap.size]? = some (.cells r.cells 51) := by rw [hW0]; exact (MapKept.heap_alloc w _).1
  have HB : Hid (Below w.heap.size w w0) := by show Below _ _ _; rw [hW0]; (repeat (first | (with_reducible refine Below.drewN ?_) | (with_reducible refine Below.drew ?_) | ((with_reducible refine Below.alloc ?_ ?_ _); rotate_left; (first | omega | (simp <;> omega))) | ((with_reducible refine Below.setCell ?_ ?_ _); rotate_left; (first | omega | (simp <;> omega))) | (with_reducible exact Below.refl _ _) | (with_reducible assumption)))
  clear hW0
  have a0 : w0.cell? ⟨w.heap.size, 0, none⟩ = some (.slice r.e.a r.e.n r.e.c) := blk_cell kA rfl
  have a1 : w0.cell? ⟨w.heap.size, 1, none⟩ = some (.int .i64 r.e.i) := blk_cell kA rfl
  go_wp2_with fail
  refine (c_heldRing' _ _ _ _ (1) _ (FS.below (B := w.heap.size) H0.out HB.out (Nat.le_refl _)) (by omega) (by omega)).mono ?_
  rintro e w1 ⟨rfl, hb⟩
  have kA1 := (hb.block _ (Array.getElem?_eq_some_iff.1 kA).1).trans kA
  have HB1 := Lib.hid (HB.out.trans (hb.mono HB.out.size))
  have n0 : ¬ (1 + (r.e.n : Int) : Int) < 0 := by omega
  clear hb kA HB a0 a1
  have kA := kA1
  have HB := HB1
  clear kA1 HB1
  have a2 : w1.cell? ⟨w.heap.size, 2, none⟩ = some (.slice r.ta r.tn r.tc) := blk_cell kA rfl
  go_wp2_with fail
  refine (c_heldTapS0 r.ta r.tn r.tc (1 + (r.e.n : Int)) _ TZ.out).mono ?_
  rintro e w2 ⟨rfl, hb⟩
  have kA1 := (hb.block _ (Array.getElem?_eq_some_iff.1 kA).1).trans kA
  have HB1 := Lib.hid (HB.out.trans (hb.mono HB.out.size))
  have n1 : ¬ (1 + (r.e.n : Int) : Int) < 0 := by omega
  clear hb kA HB a2
  have kA := kA1
  have HB := HB1
  clear kA1 HB1
  have a3 : w2.cell? ⟨w.heap.size, 3, none⟩ = some (.slice r.c0.a r.c0.n r.c0.c) := blk_cell kA rfl
  have a4 : w2.cell? ⟨w.heap.size, 4, none⟩ = some (.int .i64 r.c0.i) := blk_cell kA rfl
  have a5 : w2.cell? ⟨w.heap.size, 5, none⟩ = some (.float .f32 r.g0) := blk_cell kA rfl
  have a6 : w2.cell? ⟨w.heap.size, 6, none⟩ = some (.slice r.c1.a r.c1.n r.c1.c) := blk_cell kA rfl
  have a7 : w2.cell? ⟨w.heap.size, 7, none⟩ = some (.int .i64 r.c1.i) := blk_cell kA rfl
  have a8 : w2.cell? ⟨w.heap.size, 8, none⟩ = some (.float .f32 r.g1) := blk_cell kA rfl
  go_wp2_with fail
  refine (c_heldCombA2 r.c0 r.c1 r.g0 r.g1 (1 + (r.e.n : Int)) _ (FS.below (B := w.heap.size) H1.out HB.out (Nat.le_refl _)) (FS.below (B := w.heap.size) H2.out HB.out (Nat.le_refl _)) (by omega) (by omega)).mono ?_
  rintro e w3 ⟨rfl, hb⟩
  have kA1 := (hb.block _ (Array.getElem?_eq_some_iff.1 kA).1).trans kA
  have HB1 := Lib.hid (HB.out.trans (hb.mono HB.out.size))
  have n2 : ¬ (1 + (r.e.n : Int) + (r.c0.n : Int) + (r.c1.n : Int) : Int) < 0 := by omega
  clear hb kA HB a3 a4 a5 a6 a7 a8
  have kA := kA1
  have HB := HB1
  clear kA1 HB1
  have a9 : w3.cell? ⟨w.heap.size, 9, none⟩ = some (.slice r.l0.a r.l0.n r.l0.c) := blk_cell kA rfl
  have a10 : w3.cell? ⟨w.heap.size, 10, none⟩ = some (.int .i64 r.l0.i) := blk_cell kA rfl
  have a11 : w3.cell? ⟨w.heap.size, 11, none⟩ = some (.slice r.l1.a r.l1.n r.l1.c) := blk_cell kA rfl
  have a12 : w3.cell? ⟨w.heap.size, 12, none⟩ = some (.int .i64 r.l1.i) := blk_cell kA rfl
  have a13 : w3.cell? ⟨w.heap.size, 13, none⟩ = some (.slice r.l2.a r.l2.n r.l2.c) := blk_cell kA rfl
  have a14 : w3.cell? ⟨w.heap.size, 14, none⟩ = some (.int .i64 r.l2.i) := blk_cell kA rfl
  have a15 : w3.cell? ⟨w.heap.size, 15, none⟩ = some (.slice r.l3.a r.l3.n r.l3.c) := blk_cell kA rfl
  have a16 : w3.cell? ⟨w.heap.size, 16, none⟩ = some (.int .i64 r.l3.i) := blk_cell kA rfl
  go_wp2_with fail
  refine (c_heldRingA4 r.l0 r.l1 r.l2 r.l3 (1 + (r.e.n : Int) + (r.c0.n : Int) + (r.c1.n : Int)) _ (FS.below (B := w.heap.size) H3.out HB.out (Nat.le_refl _)) (FS.below (B := w.heap.size) H4.out HB.out (Nat.le_refl _)) (FS.below (B := w.heap.size) H5.out HB.out (Nat.le_refl _)) (FS.below (B := w.heap.size) H6.out HB.out (Nat.le_refl _)) (by omega) (by omega)).mono ?_
  rintro e w4 ⟨rfl, hb⟩
  have kA1 := (hb.block _ (Array.getElem?_eq_some_iff.1 kA).1).trans kA
  have HB1 := Lib.hid (HB.out.trans (hb.mono HB.out.size))
  have n3 : ¬ (1 + (r.e.n : Int) + (r.c0.n : Int) + (r.c1.n : Int) + (r.l0.n : Int) + (r.l1.n : Int) + (r.l2.n : Int) + (r.l3.n : Int) : Int) < 0 := by omega
  clear hb kA HB a9 a10 a11 a12 a13 a14 a15 a16
  have kA := kA1
  have HB := HB1
  clear kA1 HB1
  clear kA
  go_wp2
  go_ret
  exact ⟨by congr 2, HB.out⟩
end Go.Proofs.Ytfhegjjgfaeinaa
