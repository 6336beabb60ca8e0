
/-
The laws' own helpers: the size of a room.
-/
import Derived.Test.YtfhegjjgfaeinaaCm
import Derived.Test.YtfhegjjgfaeinaaYr
import Derived.Test.YtfhegjjgfaeinaaLi
import Derived.Test.YtfhegjjgfaeinaaFe

namespace Go.Proofs.Ytfhegjjgfaeinaa
open Go Go.RowKit Fl
set_option maxHeartbeats 2000000 in
theorem c_szRingA4_ok (q0 : Rg) (q1 : Rg) (q2 : Rg) (q3 : Rg) (left : Int) (w : World) (h0 : 0 ≤ left) (h1 : left ≤ 1048576) (m0 : q0.n ≤ 9223372036854775807) (m1 : q1.n ≤ 9223372036854775807) (m2 : q2.n ≤ 9223372036854775807) (m3 : q3.n ≤ 9223372036854775807) (h : (q0.n : Int) + (q1.n : Int) + (q2.n : Int) + (q3.n : Int) ≤ left) :
    Calls Try.prog 97 #[.agg #[.slice q0.a q0.n q0.c, .int .i64 q0.i, .slice q1.a q1.n q1.c, .int .i64 q1.i, .slice q2.a q2.n q2.c, .int .i64 q2.i, .slice q3.a q3.n q3.c, .int .i64 q3.i], .int .i64 left] w (RetV (.int .i64 (left - q0.n - q1.n - q2.n - q3.n)) w) := by
  go_enter Try.func97, Try.ntmps97
  go_wp2
  refine wp_loop_rounds 5 ?_
  rw [rounds_succ]
  go_wp2_with fail
  refine (c_szRing_ok q0.a q0.n q0.c q0.i (left) _ (by omega) (by omega) m0 (by omega)).mono ?_
  rintro e w1 ⟨rfl, hb1⟩
  obtain ⟨hc1, hf1, hz1⟩ := bcell hb1
  have b1 : Below w.heap.size w w1 := Below.trans (by (repeat (first | (with_reducible refine Below.drewN ?_) | (with_reducible refine Below.drew ?_) | ((with_reducible refine Below.alloc ?_ ?_ _); rotate_left; (first | omega | (simp <;> omega))) | ((with_reducible refine Below.setCell ?_ ?_ _); rotate_left; (first | omega | (simp <;> omega))) | (with_reducible exact Below.refl _ _) | (with_reducible assumption)))) (hb1.mono (by first | omega | (simp <;> omega)))
  have zz1 : w.heap.size < w1.heap.size := by first | (simp at hz1; omega) | omega
  have g1 : ¬ (left - q0.n) < 0 := by omega
  go_wp2
  rw [rounds_succ]
  go_wp2_with fail
  refine (c_szRing_ok q1.a q1.n q1.c q1.i (left - q0.n) _ (by omega) (by omega) m1 (by omega)).mono ?_
  rintro e w2 ⟨rfl, hb2⟩
  obtain ⟨hc2, hf2, hz2⟩ := bcell hb2
  have b2 : Below w.heap.size w w2 := b1.trans (hb2.mono b1.size)
  have zz2 : w.heap.size < w2.heap.size := by first | (simp at hz2; omega) | omega
  have g2 : ¬ (left - q0.n - q1.n) < 0 := by omega
  go_wp2
  rw [rounds_succ]
  go_wp2_with fail
  refine (c_szRing_ok q2.a q2.n q2.c q2.i (left - q0.n - q1.n) _ (by omega) (by omega) m2 (by omega)).mono ?_
  rintro e w3 ⟨rfl, hb3⟩
  obtain ⟨hc3, hf3, hz3⟩ := bcell hb3
  have b3 : Below w.heap.size w w3 := b2.trans (hb3.mono b2.size)
  have zz3 : w.heap.size < w3.heap.size := by first | (simp at hz3; omega) | omega
  have g3 : ¬ (left - q0.n - q1.n - q2.n) < 0 := by omega
  go_wp2
  rw [rounds_succ]
  go_wp2_with fail
  refine (c_szRing_ok q3.a q3.n q3.c q3.i (left - q0.n - q1.n - q2.n) _ (by omega) (by omega) m3 (by omega)).mono ?_
  rintro e w4 ⟨rfl, hb4⟩
  obtain ⟨hc4, hf4, hz4⟩ := bcell hb4
  have b4 : Below w.heap.size w w4 := b3.trans (hb4.mono b3.size)
  have zz4 : w.heap.size < w4.heap.size := by first | (simp at hz4; omega) | omega
  have g4 : ¬ (left - q0.n - q1.n - q2.n - q3.n) < 0 := by omega
  go_wp2
  rw [rounds_succ]
  go_wp2
  go_ret
  exact ⟨rfl, b4⟩
set_option maxHeartbeats 2000000 in
theorem c_szRingA4_no (q0 : Rg) (q1 : Rg) (q2 : Rg) (q3 : Rg) (left : Int) (w : World) (h0 : 0 ≤ left) (h1 : left ≤ 1048576) (m0 : q0.n ≤ 9223372036854775807) (m1 : q1.n ≤ 9223372036854775807) (m2 : q2.n ≤ 9223372036854775807) (m3 : q3.n ≤ 9223372036854775807) (h : left < (q0.n : Int) + (q1.n : Int) + (q2.n : Int) + (q3.n : Int)) :
    Calls Try.prog 97 #[.agg #[.slice q0.a q0.n q0.c, .int .i64 q0.i, .slice q1.a q1.n q1.c, .int .i64 q1.i, .slice q2.a q2.n q2.c, .int .i64 q2.i, .slice q3.a q3.n q3.c, .int .i64 q3.i], .int .i64 left] w (RetV (.int .i64 (-1)) w) := by
  by_cases p0 : left < (q0.n : Int)
  · go_enter Try.func97, Try.ntmps97
    go_wp2
    refine wp_loop_rounds 5 ?_
    rw [rounds_succ]
    go_wp2_with fail
    refine (c_szRing_no q0.a q0.n q0.c q0.i (left) _ (by omega) (by omega) m0 (by omega)).mono ?_
    rintro e w1 ⟨rfl, hb1⟩
    obtain ⟨hc1, hf1, hz1⟩ := bcell hb1
    have b1 : Below w.heap.size w w1 := Below.trans (by (repeat (first | (with_reducible refine Below.drewN ?_) | (with_reducible refine Below.drew ?_) | ((with_reducible refine Below.alloc ?_ ?_ _); rotate_left; (first | omega | (simp <;> omega))) | ((with_reducible refine Below.setCell ?_ ?_ _); rotate_left; (first | omega | (simp <;> omega))) | (with_reducible exact Below.refl _ _) | (with_reducible assumption)))) (hb1.mono (by first | omega | (simp <;> omega)))
    have zz1 : w.heap.size < w1.heap.size := by first | (simp at hz1; omega) | omega
    go_wp2
    go_ret
    exact ⟨rfl, b1⟩
  by_cases p1 : left < (q0.n : Int) + (q1.n : Int)
  · go_enter Try.func97, Try.ntmps97
    go_wp2
    refine wp_loop_rounds 5 ?_
    rw [rounds_succ]
    go_wp2_with fail
    refine (c_szRing_ok q0.a q0.n q0.c q0.i (left) _ (by omega) (by omega) m0 (by omega)).mono ?_
    rintro e w1 ⟨rfl, hb1⟩
    obtain ⟨hc1, hf1, hz1⟩ := bcell hb1
    have b1 : Below w.heap.size w w1 := Below.trans (by (repeat (first | (with_reducible refine Below.drewN ?_) | (with_reducible refine Below.drew ?_) | ((with_reducible refine Below.alloc ?_ ?_ _); rotate_left; (first | omega | (simp <;> omega))) | ((with_reducible refine Below.setCell ?_ ?_ _); rotate_left; (first | omega | (simp <;> omega))) | (with_reducible exact Below.refl _ _) | (with_reducible assumption)))) (hb1.mono (by first | omega | (simp <;> omega)))
    have zz1 : w.heap.size < w1.heap.size := by first | (simp at hz1; omega) | omega
    have g1 : ¬ (left - q0.n) < 0 := by omega
    go_wp2
    rw [rounds_succ]
    go_wp2_with fail
    refine (c_szRing_no q1.a q1.n q1.c q1.i (left - q0.n) _ (by omega) (by omega) m1 (by omega)).mono ?_
    rintro e w2 ⟨rfl, hb2⟩
    obtain ⟨hc2, hf2, hz2⟩ := bcell hb2
    have b2 : Below w.heap.size w w2 := b1.trans (hb2.mono b1.size)
    have zz2 : w.heap.size < w2.heap.size := by first | (simp at hz2; omega) | omega
    go_wp2
    go_ret
    exact ⟨rfl, b2⟩
  by_cases p2 : left < (q0.n : Int) + (q1.n : Int) + (q2.n : Int)
  · go_enter Try.func97, Try.ntmps97
    go_wp2
    refine wp_loop_rounds 5 ?_
    rw [rounds_succ]
    go_wp2_with fail
    refine (c_szRing_ok q0.a q0.n q0.c q0.i (left) _ (by omega) (by omega) m0 (by omega)).mono ?_
    rintro e w1 ⟨rfl, hb1⟩
    obtain ⟨hc1, hf1, hz1⟩ := bcell hb1
    have b1 : Below w.heap.size w w1 := Below.trans (by (repeat (first | (with_reducible refine Below.drewN ?_) | (with_reducible refine Below.drew ?_) | ((with_reducible refine Below.alloc ?_ ?_ _); rotate_left; (first | omega | (simp <;> omega))) | ((with_reducible refine Below.setCell ?_ ?_ _); rotate_left; (first | omega | (simp <;> omega))) | (with_reducible exact Below.refl _ _) | (with_reducible assumption)))) (hb1.mono (by first | omega | (simp <;> omega)))
    have zz1 : w.heap.size < w1.heap.size := by first | (simp at hz1; omega) | omega
    have g1 : ¬ (left - q0.n) < 0 := by omega
    go_wp2
    rw [rounds_succ]
    go_wp2_with fail
    refine (c_szRing_ok q1.a q1.n q1.c q1.i (left - q0.n) _ (by omega) (by omega) m1 (by omega)).mono ?_
    rintro e w2 ⟨rfl, hb2⟩
    obtain ⟨hc2, hf2, hz2⟩ := bcell hb2
    have b2 : Below w.heap.size w w2 := b1.trans (hb2.mono b1.size)
    have zz2 : w.heap.size < w2.heap.size := by first | (simp at hz2; omega) | omega
    have g2 : ¬ (left - q0.n - q1.n) < 0 := by omega
    go_wp2
    rw [rounds_succ]
    go_wp2_with fail
    refine (c_szRing_no q2.a q2.n q2.c q2.i (left - q0.n - q1.n) _ (by omega) (by omega) m2 (by omega)).mono ?_
    rintro e w3 ⟨rfl, hb3⟩
    obtain ⟨hc3, hf3, hz3⟩ := bcell hb3
    have b3 : Below w.heap.size w w3 := b2.trans (hb3.mono b2.size)
    have zz3 : w.heap.size < w3.heap.size := by first | (simp at hz3; omega) | omega
    go_wp2
    go_ret
    exact ⟨rfl, b3⟩
  go_enter Try.func97, Try.ntmps97
  go_wp2
  refine wp_loop_rounds 5 ?_
  rw [rounds_succ]
  go_wp2_with fail
  refine (c_szRing_ok q0.a q0.n q0.c q0.i (left) _ (by omega) (by omega) m0 (by omega)).mono ?_
  rintro e w1 ⟨rfl, hb1⟩
  obtain ⟨hc1, hf1, hz1⟩ := bcell hb1
  have b1 : Below w.heap.size w w1 := Below.trans (by (repeat (first | (with_reducible refine Below.drewN ?_) | (with_reducible refine Below.drew ?_) | ((with_reducible refine Below.alloc ?_ ?_ _); rotate_left; (first | omega | (simp <;> omega))) | ((with_reducible refine Below.setCell ?_ ?_ _); rotate_left; (first | omega | (simp <;> omega))) | (with_reducible exact Below.refl _ _) | (with_reducible assumption)))) (hb1.mono (by first | omega | (simp <;> omega)))
  have zz1 : w.heap.size < w1.heap.size := by first | (simp at hz1; omega) | omega
  have g1 : ¬ (left - q0.n) < 0 := by omega
  go_wp2
  rw [rounds_succ]
  go_wp2_with fail
  refine (c_szRing_ok q1.a q1.n q1.c q1.i (left - q0.n) _ (by omega) (by omega) m1 (by omega)).mono ?_
  rintro e w2 ⟨rfl, hb2⟩
  obtain ⟨hc2, hf2, hz2⟩ := bcell hb2
  have b2 : Below w.heap.size w w2 := b1.trans (hb2.mono b1.size)
  have zz2 : w.heap.size < w2.heap.size := by first | (simp at hz2; omega) | omega
  have g2 : ¬ (left - q0.n - q1.n) < 0 := by omega
  go_wp2
  rw [rounds_succ]
  go_wp2_with fail
  refine (c_szRing_ok q2.a q2.n q2.c q2.i (left - q0.n - q1.n) _ (by omega) (by omega) m2 (by omega)).mono ?_
  rintro e w3 ⟨rfl, hb3⟩
  obtain ⟨hc3, hf3, hz3⟩ := bcell hb3
  have b3 : Below w.heap.size w w3 := b2.trans (hb3.mono b2.size)
  have zz3 : w.heap.size < w3.heap.size := by first | (simp at hz3; omega) | omega
  have g3 : ¬ (left - q0.n - q1.n - q2.n) < 0 := by omega
  go_wp2
  rw [rounds_succ]
  go_wp2_with fail
  refine (c_szRing_no q3.a q3.n q3.c q3.i (left - q0.n - q1.n - q2.n) _ (by omega) (by omega) m3 (by omega)).mono ?_
  rintro e w4 ⟨rfl, hb4⟩
  obtain ⟨hc4, hf4, hz4⟩ := bcell hb4
  have b4 : Below w.heap.size w w4 := b3.trans (hb4.mono b3.size)
  have zz4 : w.heap.size < w4.heap.size := by first | (simp at hz4; omega) | omega
  go_wp2
  go_ret
  exact ⟨rfl, b4⟩
set_option maxHeartbeats 2000000 in
theorem c_szCombA2_ok (q0 : Rg) (q1 : Rg) (x0 : Nat) (x1 : Nat) (left : Int) (w : World) (h0 : 0 ≤ left) (h1 : left ≤ 1048576) (m0 : q0.n ≤ 9223372036854775807) (m1 : q1.n ≤ 9223372036854775807) (h : (q0.n : Int) + (q1.n : Int) ≤ left) :
    Calls Try.prog 96 #[.agg #[.slice q0.a q0.n q0.c, .int .i64 q0.i, .float .f32 x0, .slice q1.a q1.n q1.c, .int .i64 q1.i, .float .f32 x1], .int .i64 left] w (RetV (.int .i64 (left - q0.n - q1.n)) w) := by
  go_enter Try.func96, Try.ntmps96
  go_wp2
  refine wp_loop_rounds 3 ?_
  rw [rounds_succ]
  go_wp2_with fail
  refine (c_szComb_ok q0.a q0.n q0.c q0.i x0 (left) _ (by omega) (by omega) m0 (by omega)).mono ?_
  rintro e w1 ⟨rfl, hb1⟩
  obtain ⟨hc1, hf1, hz1⟩ := bcell hb1
  have b1 : Below w.heap.size w w1 := Below.trans (by (repeat (first | (with_reducible refine Below.drewN ?_) | (with_reducible refine Below.drew ?_) | ((with_reducible refine Below.alloc ?_ ?_ _); rotate_left; (first | omega | (simp <;> omega))) | ((with_reducible refine Below.setCell ?_ ?_ _); rotate_left; (first | omega | (simp <;> omega))) | (with_reducible exact Below.refl _ _) | (with_reducible assumption)))) (hb1.mono (by first | omega | (simp <;> omega)))
  have zz1 : w.heap.size < w1.heap.size := by first | (simp at hz1; omega) | omega
  have g1 : ¬ (left - q0.n) < 0 := by omega
  go_wp2
  rw [rounds_succ]
  go_wp2_with fail
  refine (c_szComb_ok q1.a q1.n q1.c q1.i x1 (left - q0.n) _ (by omega) (by omega) m1 (by omega)).mono ?_
  rintro e w2 ⟨rfl, hb2⟩
  obtain ⟨hc2, hf2, hz2⟩ := bcell hb2
  have b2 : Below w.heap.size w w2 := b1.trans (hb2.mono b1.size)
  have zz2 : w.heap.size < w2.heap.size := by first | (simp at hz2; omega) | omega
  have g2 : ¬ (left - q0.n - q1.n) < 0 := by omega
  go_wp2
  rw [rounds_succ]
  go_wp2
  go_ret
  exact ⟨rfl, b2⟩
set_option maxHeartbeats 2000000 in
theorem c_szCombA2_no (q0 : Rg) (q1 : Rg) (x0 : Nat) (x1 : Nat) (left : Int) (w : World) (h0 : 0 ≤ left) (h1 : left ≤ 1048576) (m0 : q0.n ≤ 9223372036854775807) (m1 : q1.n ≤ 9223372036854775807) (h : left < (q0.n : Int) + (q1.n : Int)) :
    Calls Try.prog 96 #[.agg #[.slice q0.a q0.n q0.c, .int .i64 q0.i, .float .f32 x0, .slice q1.a q1.n q1.c, .int .i64 q1.i, .float .f32 x1], .int .i64 left] w (RetV (.int .i64 (-1)) w) := by
  by_cases p0 : left < (q0.n : Int)
  · go_enter Try.func96, Try.ntmps96
    go_wp2
    refine wp_loop_rounds 3 ?_
    rw [rounds_succ]
    go_wp2_with fail
    refine (c_szComb_no q0.a q0.n q0.c q0.i x0 (left) _ (by omega) (by omega) m0 (by omega)).mono ?_
    rintro e w1 ⟨rfl, hb1⟩
    obtain ⟨hc1, hf1, hz1⟩ := bcell hb1
    have b1 : Below w.heap.size w w1 := Below.trans (by (repeat (first | (with_reducible refine Below.drewN ?_) | (with_reducible refine Below.drew ?_) | ((with_reducible refine Below.alloc ?_ ?_ _); rotate_left; (first | omega | (simp <;> omega))) | ((with_reducible refine Below.setCell ?_ ?_ _); rotate_left; (first | omega | (simp <;> omega))) | (with_reducible exact Below.refl _ _) | (with_reducible assumption)))) (hb1.mono (by first | omega | (simp <;> omega)))
    have zz1 : w.heap.size < w1.heap.size := by first | (simp at hz1; omega) | omega
    go_wp2
    go_ret
    exact ⟨rfl, b1⟩
  go_enter Try.func96, Try.ntmps96
  go_wp2
  refine wp_loop_rounds 3 ?_
  rw [rounds_succ]
  go_wp2_with fail
  refine (c_szComb_ok q0.a q0.n q0.c q0.i x0 (left) _ (by omega) (by omega) m0 (by omega)).mono ?_
  rintro e w1 ⟨rfl, hb1⟩
  obtain ⟨hc1, hf1, hz1⟩ := bcell hb1
  have b1 : Below w.heap.size w w1 := Below.trans (by (repeat (first | (with_reducible refine Below.drewN ?_) | (with_reducible refine Below.drew ?_) | ((with_reducible refine Below.alloc ?_ ?_ _); rotate_left; (first | omega | (simp <;> omega))) | ((with_reducible refine Below.setCell ?_ ?_ _); rotate_left; (first | omega | (simp <;> omega))) | (with_reducible exact Below.refl _ _) | (with_reducible assumption)))) (hb1.mono (by first | omega | (simp <;> omega)))
  have zz1 : w.heap.size < w1.heap.size := by first | (simp at hz1; omega) | omega
  have g1 : ¬ (left - q0.n) < 0 := by omega
  go_wp2
  rw [rounds_succ]
  go_wp2_with fail
  refine (c_szComb_no q1.a q1.n q1.c q1.i x1 (left - q0.n) _ (by omega) (by omega) m1 (by omega)).mono ?_
  rintro e w2 ⟨rfl, hb2⟩
  obtain ⟨hc2, hf2, hz2⟩ := bcell hb2
  have b2 : Below w.heap.size w w2 := b1.trans (hb2.mono b1.size)
  have zz2 : w.heap.size < w2.heap.size := by first | (simp at hz2; omega) | omega
  go_wp2
  go_ret
  exact ⟨rfl, b2⟩

set_option maxHeartbeats 1600000 in
theorem c_szRoom_ok (r : Rv) (w : World) (hm : RvC r) (h : (r.e.n : Int) + (r.tn : Int) + (r.c0.n : Int) + (r.c1.n : Int) + (r.l0.n : Int) + (r.l1.n : Int) + (r.l2.n : Int) + (r.l3.n : Int) ≤ 1048576) :
    Calls Try.prog 33 #[.agg r.cells, .int .i64 1048576] w (RetV (.int .i64 (1048576 - r.e.n - r.tn - r.c0.n - r.c1.n - r.l0.n - r.l1.n - r.l2.n - r.l3.n)) w) := by
  have N := Lib.hid hm
  clear hm
  go_enter Try.func33, Try.ntmps33
  go_upto_region 1 with fail
  refine wp_named ?_
  intro w0 hW0
  have kA : w0.heap[w.heap.size]? = some (.cells r.cells 77) := by rw [hW0]; exact (MapKept.heap_alloc w _).1
  have HB : Hid (Below w.heap.size w w0) := by show Below _ _ _; rw [hW0]; (repeat (first | (with_reducible refine Below.drewN ?_) | (with_reducible refine Below.drew ?_) | ((with_reducible refine Below.alloc ?_ ?_ _); rotate_left; (first | omega | (simp <;> omega))) | ((with_reducible refine Below.setCell ?_ ?_ _); rotate_left; (first | omega | (simp <;> omega))) | (with_reducible exact Below.refl _ _) | (with_reducible assumption)))
  clear hW0
  have a0 : w0.cell? ⟨w.heap.size, 0, none⟩ = some (.slice r.e.a r.e.n r.e.c) := blk_cell kA rfl
  have a1 : w0.cell? ⟨w.heap.size, 1, none⟩ = some (.int .i64 r.e.i) := blk_cell kA rfl
  go_wp2_with fail
  refine (c_szRing_ok r.e.a r.e.n r.e.c r.e.i (1048576) _ (by omega) (by omega) N.out.m0 (by omega)).mono ?_
  rintro e w1 ⟨rfl, hb⟩
  have kA1 := (hb.block _ (Array.getElem?_eq_some_iff.1 kA).1).trans kA
  have HB1 := Lib.hid (HB.out.trans (hb.mono HB.out.size))
  clear kA HB hb a0 a1
  have kA := kA1
  have HB := HB1
  clear kA1 HB1
  have g1 : ¬ (1048576 - r.e.n : Int) < 0 := by omega
  have a2 : w1.cell? ⟨w.heap.size, 2, none⟩ = some (.slice r.ta r.tn r.tc) := blk_cell kA rfl
  go_wp2_with fail
  refine (c_szTapS_ok r.ta r.tn r.tc (1048576 - r.e.n) _ N.out.mt (by omega) (by omega)).mono ?_
  rintro e w2 ⟨rfl, hb⟩
  have kA1 := (hb.block _ (Array.getElem?_eq_some_iff.1 kA).1).trans kA
  have HB1 := Lib.hid (HB.out.trans (hb.mono HB.out.size))
  clear kA HB hb a2
  have kA := kA1
  have HB := HB1
  clear kA1 HB1
  have g2 : ¬ (1048576 - r.e.n - r.tn : Int) < 0 := by omega
  have a3 : w2.cell? ⟨w.heap.size, 3, none⟩ = some (.slice r.c0.a r.c0.n r.c0.c) := blk_cell kA rfl
  have a4 : w2.cell? ⟨w.heap.size, 4, none⟩ = some (.int .i64 r.c0.i) := blk_cell kA rfl
  have a5 : w2.cell? ⟨w.heap.size, 5, none⟩ = some (.float .f32 r.g0) := blk_cell kA rfl
  have a6 : w2.cell? ⟨w.heap.size, 6, none⟩ = some (.slice r.c1.a r.c1.n r.c1.c) := blk_cell kA rfl
  have a7 : w2.cell? ⟨w.heap.size, 7, none⟩ = some (.int .i64 r.c1.i) := blk_cell kA rfl
  have a8 : w2.cell? ⟨w.heap.size, 8, none⟩ = some (.float .f32 r.g1) := blk_cell kA rfl
  go_wp2_with fail
  refine (c_szCombA2_ok r.c0 r.c1 r.g0 r.g1 (1048576 - r.e.n - r.tn) _ (by omega) (by omega) N.out.m1 N.out.m2 (by omega)).mono ?_
  rintro e w3 ⟨rfl, hb⟩
  have kA1 := (hb.block _ (Array.getElem?_eq_some_iff.1 kA).1).trans kA
  have HB1 := Lib.hid (HB.out.trans (hb.mono HB.out.size))
  clear kA HB hb a3 a4 a5 a6 a7 a8
  have kA := kA1
  have HB := HB1
  clear kA1 HB1
  have g3 : ¬ (1048576 - r.e.n - r.tn - r.c0.n - r.c1.n : Int) < 0 := by omega
  have a9 : w3.cell? ⟨w.heap.size, 9, none⟩ = some (.slice r.l0.a r.l0.n r.l0.c) := blk_cell kA rfl
  have a10 : w3.cell? ⟨w.heap.size, 10, none⟩ = some (.int .i64 r.l0.i) := blk_cell kA rfl
  have a11 : w3.cell? ⟨w.heap.size, 11, none⟩ = some (.slice r.l1.a r.l1.n r.l1.c) := blk_cell kA rfl
  have a12 : w3.cell? ⟨w.heap.size, 12, none⟩ = some (.int .i64 r.l1.i) := blk_cell kA rfl
  have a13 : w3.cell? ⟨w.heap.size, 13, none⟩ = some (.slice r.l2.a r.l2.n r.l2.c) := blk_cell kA rfl
  have a14 : w3.cell? ⟨w.heap.size, 14, none⟩ = some (.int .i64 r.l2.i) := blk_cell kA rfl
  have a15 : w3.cell? ⟨w.heap.size, 15, none⟩ = some (.slice r.l3.a r.l3.n r.l3.c) := blk_cell kA rfl
  have a16 : w3.cell? ⟨w.heap.size, 16, none⟩ = some (.int .i64 r.l3.i) := blk_cell kA rfl
  go_wp2_with fail
  refine (c_szRingA4_ok r.l0 r.l1 r.l2 r.l3 (1048576 - r.e.n - r.tn - r.c0.n - r.c1.n) _ (by omega) (by omega) N.out.m3 N.out.m4 N.out.m5 N.out.m6 (by omega)).mono ?_
  rintro e w4 ⟨rfl, hb⟩
  have kA1 := (hb.block _ (Array.getElem?_eq_some_iff.1 kA).1).trans kA
  have HB1 := Lib.hid (HB.out.trans (hb.mono HB.out.size))
  clear kA HB hb a9 a10 a11 a12 a13 a14 a15 a16
  have kA := kA1
  have HB := HB1
  clear kA1 HB1
  have g4 : ¬ (1048576 - r.e.n - r.tn - r.c0.n - r.c1.n - r.l0.n - r.l1.n - r.l2.n - r.l3.n : Int) < 0 := by omega
  go_wp2
  go_ret
  exact ⟨rfl, HB.out⟩
set_option maxHeartbeats 1600000 in
theorem c_szRoom_no (r : Rv) (w : World) (hm : RvC r) (h : 1048576 < (r.e.n : Int) + (r.tn : Int) + (r.c0.n : Int) + (r.c1.n : Int) + (r.l0.n : Int) + (r.l1.n : Int) + (r.l2.n : Int) + (r.l3.n : Int)) :
    Calls Try.prog 33 #[.agg r.cells, .int .i64 1048576] w (RetV (.int .i64 (-1)) w) := by
  have N := Lib.hid hm
  clear hm
  by_cases p0 : 1048576 < (r.e.n : Int)
  · go_enter Try.func33, Try.ntmps33
    go_upto_region 1 with fail
    refine wp_named ?_
    intro w0 hW0
    have kA : w0.heap[w.heap.size]? = some (.cells r.cells 77) := by rw [hW0]; exact (MapKept.heap_alloc w _).1
    have HB : Hid (Below w.heap.size w w0) := by show Below _ _ _; rw [hW0]; (repeat (first | (with_reducible refine Below.drewN ?_) | (with_reducible refine Below.drew ?_) | ((with_reducible refine Below.alloc ?_ ?_ _); rotate_left; (first | omega | (simp <;> omega))) | ((with_reducible refine Below.setCell ?_ ?_ _); rotate_left; (first | omega | (simp <;> omega))) | (with_reducible exact Below.refl _ _) | (with_reducible assumption)))
    clear hW0
    have a0 : w0.cell? ⟨w.heap.size, 0, none⟩ = some (.slice r.e.a r.e.n r.e.c) := blk_cell kA rfl
    have a1 : w0.cell? ⟨w.heap.size, 1, none⟩ = some (.int .i64 r.e.i) := blk_cell kA rfl
    go_wp2_with fail
    refine (c_szRing_no r.e.a r.e.n r.e.c r.e.i (1048576) _ (by omega) (by omega) N.out.m0 (by omega)).mono ?_
    rintro e w1 ⟨rfl, hb⟩
    have kA1 := (hb.block _ (Array.getElem?_eq_some_iff.1 kA).1).trans kA
    have HB1 := Lib.hid (HB.out.trans (hb.mono HB.out.size))
    clear kA HB hb a0 a1
    have kA := kA1
    have HB := HB1
    clear kA1 HB1
    go_wp2
    go_ret
    exact ⟨rfl, HB.out⟩
  by_cases p1 : 1048576 < (r.e.n : Int) + (r.tn : Int)
  · go_enter Try.func33, Try.ntmps33
    go_upto_region 1 with fail
    refine wp_named ?_
    intro w0 hW0
    have kA : w0.heap[w.heap.size]? = some (.cells r.cells 77) := by rw [hW0]; exact (MapKept.heap_alloc w _).1
    have HB : Hid (Below w.heap.size w w0) := by show Below _ _ _; rw [hW0]; (repeat (first | (with_reducible refine Below.drewN ?_) | (with_reducible refine Below.drew ?_) | ((with_reducible refine Below.alloc ?_ ?_ _); rotate_left; (first | omega | (simp <;> omega))) | ((with_reducible refine Below.setCell ?_ ?_ _); rotate_left; (first | omega | (simp <;> omega))) | (with_reducible exact Below.refl _ _) | (with_reducible assumption)))
    clear hW0
    have a0 : w0.cell? ⟨w.heap.size, 0, none⟩ = some (.slice r.e.a r.e.n r.e.c) := blk_cell kA rfl
    have a1 : w0.cell? ⟨w.heap.size, 1, none⟩ = some (.int .i64 r.e.i) := blk_cell kA rfl
    go_wp2_with fail
    refine (c_szRing_ok r.e.a r.e.n r.e.c r.e.i (1048576) _ (by omega) (by omega) N.out.m0 (by omega)).mono ?_
    rintro e w1 ⟨rfl, hb⟩
    have kA1 := (hb.block _ (Array.getElem?_eq_some_iff.1 kA).1).trans kA
    have HB1 := Lib.hid (HB.out.trans (hb.mono HB.out.size))
    clear kA HB hb a0 a1
    have kA := kA1
    have HB := HB1
    clear kA1 HB1
    have g1 : ¬ (1048576 - r.e.n : Int) < 0 := by omega
    have a2 : w1.cell? ⟨w.heap.size, 2, none⟩ = some (.slice r.ta r.tn r.tc) := blk_cell kA rfl
    go_wp2_with fail
    refine (c_szTapS_no r.ta r.tn r.tc (1048576 - r.e.n) _ N.out.mt (by omega) (by omega) (by omega)).mono ?_
    rintro e w2 ⟨rfl, hb⟩
    have kA1 := (hb.block _ (Array.getElem?_eq_some_iff.1 kA).1).trans kA
    have HB1 := Lib.hid (HB.out.trans (hb.mono HB.out.size))
    clear kA HB hb a2
    have kA := kA1
    have HB := HB1
    clear kA1 HB1
    go_wp2
    go_ret
    exact ⟨rfl, HB.out⟩
  by_cases p2 : 1048576 < (r.e.n : Int) + (r.tn : Int) + (r.c0.n : Int) + (r.c1.n : Int)
  · go_enter Try.func33, Try.ntmps33
    go_upto_region 1 with fail
    refine wp_named ?_
    intro w0 hW0
    have kA : w0.heap[w.heap.size]? = some (.cells r.cells 77) := by rw [hW0]; exact (MapKept.heap_alloc w _).1
    have HB : Hid (Below w.heap.size w w0) := by show Below _ _ _; rw [hW0]; (repeat (first | (with_reducible refine Below.drewN ?_) | (with_reducible refine Below.drew ?_) | ((with_reducible refine Below.alloc ?_ ?_ _); rotate_left; (first | omega | (simp <;> omega))) | ((with_reducible refine Below.setCell ?_ ?_ _); rotate_left; (first | omega | (simp <;> omega))) | (with_reducible exact Below.refl _ _) | (with_reducible assumption)))
    clear hW0
    have a0 : w0.cell? ⟨w.heap.size, 0, none⟩ = some (.slice r.e.a r.e.n r.e.c) := blk_cell kA rfl
    have a1 : w0.cell? ⟨w.heap.size, 1, none⟩ = some (.int .i64 r.e.i) := blk_cell kA rfl
    go_wp2_with fail
    refine (c_szRing_ok r.e.a r.e.n r.e.c r.e.i (1048576) _ (by omega) (by omega) N.out.m0 (by omega)).mono ?_
    rintro e w1 ⟨rfl, hb⟩
    have kA1 := (hb.block _ (Array.getElem?_eq_some_iff.1 kA).1).trans kA
    have HB1 := Lib.hid (HB.out.trans (hb.mono HB.out.size))
    clear kA HB hb a0 a1
    have kA := kA1
    have HB := HB1
    clear kA1 HB1
    have g1 : ¬ (1048576 - r.e.n : Int) < 0 := by omega
    have a2 : w1.cell? ⟨w.heap.size, 2, none⟩ = some (.slice r.ta r.tn r.tc) := blk_cell kA rfl
    go_wp2_with fail
    refine (c_szTapS_ok r.ta r.tn r.tc (1048576 - r.e.n) _ N.out.mt (by omega) (by omega)).mono ?_
    rintro e w2 ⟨rfl, hb⟩
    have kA1 := (hb.block _ (Array.getElem?_eq_some_iff.1 kA).1).trans kA
    have HB1 := Lib.hid (HB.out.trans (hb.mono HB.out.size))
    clear kA HB hb a2
    have kA := kA1
    have HB := HB1
    clear kA1 HB1
    have g2 : ¬ (1048576 - r.e.n - r.tn : Int) < 0 := by omega
    have a3 : w2.cell? ⟨w.heap.size, 3, none⟩ = some (.slice r.c0.a r.c0.n r.c0.c) := blk_cell kA rfl
    have a4 : w2.cell? ⟨w.heap.size, 4, none⟩ = some (.int .i64 r.c0.i) := blk_cell kA rfl
    have a5 : w2.cell? ⟨w.heap.size, 5, none⟩ = some (.float .f32 r.g0) := blk_cell kA rfl
    have a6 : w2.cell? ⟨w.heap.size, 6, none⟩ = some (.slice r.c1.a r.c1.n r.c1.c) := blk_cell kA rfl
    have a7 : w2.cell? ⟨w.heap.size, 7, none⟩ = some (.int .i64 r.c1.i) := blk_cell kA rfl
    have a8 : w2.cell? ⟨w.heap.size, 8, none⟩ = some (.float .f32 r.g1) := blk_cell kA rfl
    go_wp2_with fail
    refine (c_szCombA2_no r.c0 r.c1 r.g0 r.g1 (1048576 - r.e.n - r.tn) _ (by omega) (by omega) N.out.m1 N.out.m2 (by omega)).mono ?_
    rintro e w3 ⟨rfl, hb⟩
    have kA1 := (hb.block _ (Array.getElem?_eq_some_iff.1 kA).1).trans kA
    have HB1 := Lib.hid (HB.out.trans (hb.mono HB.out.size))
    clear kA HB hb a3 a4 a5 a6 a7 a8
    have kA := kA1
    have HB := HB1
    clear kA1 HB1
    go_wp2
    go_ret
    exact ⟨rfl, HB.out⟩
  go_enter Try.func33, Try.ntmps33
  go_upto_region 1 with fail
  refine wp_named ?_
  intro w0 hW0
  have kA : w0.heap[w.heap.size]? = some (.cells r.cells 77) := by rw [hW0]; exact (MapKept.heap_alloc w _).1
  have HB : Hid (Below w.heap.size w w0) := by show Below _ _ _; rw [hW0]; (repeat (first | (with_reducible refine Below.drewN ?_) | (with_reducible refine Below.drew ?_) | ((with_reducible refine Below.alloc ?_ ?_ _); rotate_left; (first | omega | (simp <;> omega))) | ((with_reducible refine Below.setCell ?_ ?_ _); rotate_left; (first | omega | (simp <;> omega))) | (with_reducible exact Below.refl _ _) | (with_reducible assumption)))
  clear hW0
  have a0 : w0.cell? ⟨w.heap.size, 0, none⟩ = some (.slice r.e.a r.e.n r.e.c) := blk_cell kA rfl
  have a1 : w0.cell? ⟨w.heap.size, 1, none⟩ = some (.int .i64 r.e.i) := blk_cell kA rfl
  go_wp2_with fail
  refine (c_szRing_ok r.e.a r.e.n r.e.c r.e.i (1048576) _ (by omega) (by omega) N.out.m0 (by omega)).mono ?_
  rintro e w1 ⟨rfl, hb⟩
  have kA1 := (hb.block _ (Array.getElem?_eq_some_iff.1 kA).1).trans kA
  have HB1 := Lib.hid (HB.out.trans (hb.mono HB.out.size))
  clear kA HB hb a0 a1
  have kA := kA1
  have HB := HB1
  clear kA1 HB1
  have g1 : ¬ (1048576 - r.e.n : Int) < 0 := by omega
  have a2 : w1.cell? ⟨w.heap.size, 2, none⟩ = some (.slice r.ta r.tn r.tc) := blk_cell kA rfl
  go_wp2_with fail
  refine (c_szTapS_ok r.ta r.tn r.tc (1048576 - r.e.n) _ N.out.mt (by omega) (by omega)).mono ?_
  rintro e w2 ⟨rfl, hb⟩
  have kA1 := (hb.block _ (Array.getElem?_eq_some_iff.1 kA).1).trans kA
  have HB1 := Lib.hid (HB.out.trans (hb.mono HB.out.size))
  clear kA HB hb a2
  have kA := kA1
  have HB := HB1
  clear kA1 HB1
  have g2 : ¬ (1048576 - r.e.n - r.tn : Int) < 0 := by omega
  have a3 : w2.cell? ⟨w.heap.size, 3, none⟩ = some (.slice r.c0.a r.c0.n r.c0.c) := blk_cell kA rfl
  have a4 : w2.cell? ⟨w.heap.size, 4, none⟩ = some (.int .i64 r.c0.i) := blk_cell kA rfl
  have a5 : w2.cell? ⟨w.heap.size, 5, none⟩ = some (.float .f32 r.g0) := blk_cell kA rfl
  have a6 : w2.cell? ⟨w.heap.size, 6, none⟩ = some (.slice r.c1.a r.c1.n r.c1.c) := blk_cell kA rfl
  have a7 : w2.cell? ⟨w.heap.size, 7, none⟩ = some (.int .i64 r.c1.i) := blk_cell kA rfl
  have a8 : w2.cell? ⟨w.heap.size, 8, none⟩ = some (.float .f32 r.g1) := blk_cell kA rfl
  go_wp2_with fail
  refine (c_szCombA2_ok r.c0 r.c1 r.g0 r.g1 (1048576 - r.e.n - r.tn) _ (by omega) (by omega) N.out.m1 N.out.m2 (by omega)).mono ?_
  rintro e w3 ⟨rfl, hb⟩
  have kA1 := (hb.block _ (Array.getElem?_eq_some_iff.1 kA).1).trans kA
  have HB1 := Lib.hid (HB.out.trans (hb.mono HB.out.size))
  clear kA HB hb a3 a4 a5 a6 a7 a8
  have kA := kA1
  have HB := HB1
  clear kA1 HB1
  have g3 : ¬ (1048576 - r.e.n - r.tn - r.c0.n - r.c1.n : Int) < 0 := by omega
  have a9 : w3.cell? ⟨w.heap.size, 9, none⟩ = some (.slice r.l0.a r.l0.n r.l0.c) := blk_cell kA rfl
  have a10 : w3.cell? ⟨w.heap.size, 10, none⟩ = some (.int .i64 r.l0.i) := blk_cell kA rfl
  have a11 : w3.cell? ⟨w.heap.size, 11, none⟩ = some (.slice r.l1.a r.l1.n r.l1.c) := blk_cell kA rfl
  have a12 : w3.cell? ⟨w.heap.size, 12, none⟩ = some (.int .i64 r.l1.i) := blk_cell kA rfl
  have a13 : w3.cell? ⟨w.heap.size, 13, none⟩ = some (.slice r.l2.a r.l2.n r.l2.c) := blk_cell kA rfl
  have a14 : w3.cell? ⟨w.heap.size, 14, none⟩ = some (.int .i64 r.l2.i) := blk_cell kA rfl
  have a15 : w3.cell? ⟨w.heap.size, 15, none⟩ = some (.slice r.l3.a r.l3.n r.l3.c) := blk_cell kA rfl
  have a16 : w3.cell? ⟨w.heap.size, 16, none⟩ = some (.int .i64 r.l3.i) := blk_cell kA rfl
  go_wp2_with fail
  refine (c_szRingA4_no r.l0 r.l1 r.l2 r.l3 (1048576 - r.e.n - r.tn - r.c0.n - r.c1.n) _ (by omega) (by omega) N.out.m3 N.out.m4 N.out.m5 N.out.m6 (by omega)).mono ?_
  rintro e w4 ⟨rfl, hb⟩
  have kA1 := (hb.block _ (Array.getElem?_eq_some_iff.1 kA).1).trans kA
  have HB1 := Lib.hid (HB.out.trans (hb.mono HB.out.size))
  clear kA HB hb a9 a10 a11 a12 a13 a14 a15 a16
  have kA := kA1
  have HB := HB1
  clear kA1 HB1
  go_wp2
  go_ret
  exact ⟨rfl, HB.out⟩


end Go.Proofs.Ytfhegjjgfaeinaa
