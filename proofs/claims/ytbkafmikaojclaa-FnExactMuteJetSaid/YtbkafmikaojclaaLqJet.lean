
/-
The walk of the law of the muting of Jets.
-/
import Derived.Test.YtbkafmikaojclaaLw
import Derived.Test.YtbkafmikaojclaaLd
import Derived.Test.YtbkafmikaojclaaGj
import Derived.Test.YtbkafmikaojclaaWz
namespace Go.Proofs.Ytbkafmikaojclaa
open Go Go.RowKit Fl
theorem bUp {w a b : World} (h : Below w.heap.size w a) (k : Below a.heap.size a b) : Below w.heap.size w b := h.trans (k.mono h.size)

set_option maxRecDepth 100000 in
set_option maxHeartbeats 20000000 in
theorem l_MuteJet (a1 : Option Addr) (n1 c1 : Nat) (xs1 : List Nat) (i1 : Int) (a2 : Option Addr) (n2 c2 : Nat) (xs2 : List Nat) (i2 : Int) (k1 : Int) (f1_0 f1_1 f1_2 f1_3 f1_4 : Nat) (k2 : Int) (f2_0 f2_1 f2_2 f2_3 f2_4 : Nat) (x1 : Nat) (x2 : Nat) (r_n1 : Nat) (r_xs1 : List Nat) (r_i1 : Int) (r_n2 : Nat) (r_xs2 : List Nat) (r_i2 : Int) (r_k1 : Int) (r_f1_0 r_f1_1 r_f1_2 r_f1_3 r_f1_4 : Nat) (r_k2 : Int) (r_f2_0 r_f2_1 r_f2_2 r_f2_3 r_f2_4 : Nat) (r_x1 : Nat) (r_x2 : Nat) (code : Int) (w : World) (h_1 : FS w a1 n1 c1 xs1) (h_2 : FS w a2 n2 c2 xs2) (r_m1 : r_n1 ≤ 1048576) (r_m2 : r_n2 ≤ 1048576)
    (HS : ∀ W (d1 d2 : Option Addr) (e1 e2 : Nat), FS W d1 n1 e1 xs1 → FS W d2 n2 e2 xs2 → Calls Try.prog 56 #[.agg #[.slice d1 n1 e1, .int .i64 i1, .slice d2 n2 e2, .int .i64 i2, .int .i64 k1, .float .f32 f1_0, .float .f32 f1_1, .float .f32 f1_2, .float .f32 f1_3, .float .f32 f1_4, .int .i64 k2, .float .f32 f2_0, .float .f32 f2_1, .float .f32 f2_2, .float .f32 f2_3, .float .f32 f2_4, .float .f32 x1, .float .f32 x2]] W (NewJet r_n1 r_xs1 r_i1 r_n2 r_xs2 r_i2 r_k1 r_f1_0 r_f1_1 r_f1_2 r_f1_3 r_f1_4 r_k2 r_f2_0 r_f2_1 r_f2_2 r_f2_3 r_f2_4 r_x1 r_x2 code W))
    (HI : ∀ W (d1 d2 : Option Addr) (e1 e2 : Nat), FS W d1 n1 e1 xs1 → FS W d2 n2 e2 xs2 → Calls Try.prog 57 #[.agg #[.slice d1 n1 e1, .int .i64 i1, .slice d2 n2 e2, .int .i64 i2, .int .i64 k1, .float .f32 f1_0, .float .f32 f1_1, .float .f32 f1_2, .float .f32 f1_3, .float .f32 f1_4, .int .i64 k2, .float .f32 f2_0, .float .f32 f2_1, .float .f32 f2_2, .float .f32 f2_3, .float .f32 f2_4, .float .f32 x1, .float .f32 x2]] W (NewJet r_n1 r_xs1 r_i1 r_n2 r_xs2 r_i2 r_k1 r_f1_0 r_f1_1 r_f1_2 r_f1_3 r_f1_4 r_k2 r_f2_0 r_f2_1 r_f2_2 r_f2_3 r_f2_4 r_x1 r_x2 code W)) :
    Calls Try.prog 14 #[.agg #[.slice a1 n1 c1, .int .i64 i1, .slice a2 n2 c2, .int .i64 i2, .int .i64 k1, .float .f32 f1_0, .float .f32 f1_1, .float .f32 f1_2, .float .f32 f1_3, .float .f32 f1_4, .int .i64 k2, .float .f32 f2_0, .float .f32 f2_1, .float .f32 f2_2, .float .f32 f2_3, .float .f32 f2_4, .float .f32 x1, .float .f32 x2]] w (RetV (.bool true) w) := by
  have HS := Lib.hid HS
  have HI := Lib.hid HI
  have M1 : n1 ≤ 9223372036854775807 := Nat.le_trans h_1.cap h_1.big
  have H1 := Lib.hid h_1
  clear h_1
  have M2 : n2 ≤ 9223372036854775807 := Nat.le_trans h_2.cap h_2.big
  have H2 := Lib.hid h_2
  clear h_2
  by_cases ht : (n1 : Int) + (n2 : Int) ≤ 1048576
  rotate_left
  · go_enter Try.func14, Try.ntmps14
    go_wp2_with fail
    refine (c_szJet_no _ _ _ _ _ _ _ _ _ _ _ _ _ _ _ _ _ _ _ _ _ _ (1048576) _ (by omega) (by omega) M1 M2 (by omega)).mono ?_
    rintro e w1 ⟨rfl, hb1⟩
    obtain ⟨hc1, hf1, hz1⟩ := bcell hb1
    have hk1 := bblk hb1
    have Z1 : w.heap.size ≤ w1.heap.size := by first | exact hz1 | (simp at hz1; omega) | omega
    try (have ZS1 : w.heap.size < w1.heap.size := by first | omega | (simp at hz1; omega))
    try (have Xw_1 : w.heap.size < w1.heap.size := by first | omega | (simp at hz1; omega))
    try (have XXw_1 : w.heap.size < w1.heap.size + 1 := by omega)
    have b1 : Below w.heap.size w w1 := Below.trans (by (repeat (first | (with_reducible refine Below.drewN ?_) | (with_reducible refine Below.drew ?_) | ((with_reducible refine Below.alloc ?_ ?_ _); rotate_left; (first | omega | (simp <;> omega))) | ((with_reducible refine Below.setCell ?_ ?_ _); rotate_left; (first | omega | (simp <;> omega))) | (with_reducible exact Below.refl _ _) | (with_reducible assumption)))) (hb1.mono (by first | omega | (simp <;> omega)))
    go_wp2
    go_ret
    exact ⟨rfl, by (repeat (first | (with_reducible refine Below.drewN ?_) | (with_reducible refine Below.drew ?_) | ((with_reducible refine Below.alloc ?_ ?_ _); rotate_left; (first | omega | (simp <;> omega))) | ((with_reducible refine Below.setCell ?_ ?_ _); rotate_left; (first | omega | (simp <;> omega))) | (with_reducible exact Below.refl _ _) | (with_reducible assumption)))⟩
  have hl : ¬ (1048576 - n1 - n2 : Int) < 0 := by omega
  have hq : ¬ (1 + (n1 : Int) + (n2 : Int)) < 0 := by omega
  have hq2 : ¬ (1 + (r_n1 : Int) + (r_n2 : Int)) < 0 := by omega
  go_enter Try.func14, Try.ntmps14
  have G0 : Below w.heap.size w (w.alloc (.cells #[.slice a1 n1 c1, .int .i64 i1, .slice a2 n2 c2, .int .i64 i2, .int .i64 k1, .float .f32 f1_0, .float .f32 f1_1, .float .f32 f1_2, .float .f32 f1_3, .float .f32 f1_4, .int .i64 k2, .float .f32 f2_0, .float .f32 f2_1, .float .f32 f2_2, .float .f32 f2_3, .float .f32 f2_4, .float .f32 x1, .float .f32 x2] 48)) := Below.alloc (Below.refl _ _) (Nat.le_refl _) _
  go_wp2_with fail
  refine (c_szJet_ok _ _ _ _ _ _ _ _ _ _ _ _ _ _ _ _ _ _ _ _ _ _ (1048576) _ (by omega) (by omega) M1 M2 (by omega)).mono ?_
  rintro e w1 ⟨rfl, hb1⟩
  have S1 : Hid (w.heap.size + 1 ≤ w1.heap.size) := by show _ ≤ _; have := hb1.size; simpa using this
  have kxn : blkAt w1 w.heap.size = some (.cells #[.slice a1 n1 c1, .int .i64 i1, .slice a2 n2 c2, .int .i64 i2, .int .i64 k1, .float .f32 f1_0, .float .f32 f1_1, .float .f32 f1_2, .float .f32 f1_3, .float .f32 f1_4, .int .i64 k2, .float .f32 f2_0, .float .f32 f2_1, .float .f32 f2_2, .float .f32 f2_3, .float .f32 f2_4, .float .f32 x1, .float .f32 x2] 48) := (hb1.block _ (ltb (blk_alloc w (.cells #[.slice a1 n1 c1, .int .i64 i1, .slice a2 n2 c2, .int .i64 i2, .int .i64 k1, .float .f32 f1_0, .float .f32 f1_1, .float .f32 f1_2, .float .f32 f1_3, .float .f32 f1_4, .int .i64 k2, .float .f32 f2_0, .float .f32 f2_1, .float .f32 f2_2, .float .f32 f2_3, .float .f32 f2_4, .float .f32 x1, .float .f32 x2] 48)))).trans (blk_alloc w (.cells #[.slice a1 n1 c1, .int .i64 i1, .slice a2 n2 c2, .int .i64 i2, .int .i64 k1, .float .f32 f1_0, .float .f32 f1_1, .float .f32 f1_2, .float .f32 f1_3, .float .f32 f1_4, .int .i64 k2, .float .f32 f2_0, .float .f32 f2_1, .float .f32 f2_2, .float .f32 f2_3, .float .f32 f2_4, .float .f32 x1, .float .f32 x2] 48))
  have HB1 := Lib.hid (bUp (G0) hb1)
  have kx := kxn
  clear kxn
  have yx := ltb kx
  clear hb1
  clear G0
  go_wp2_with fail
  refine (c_toJet' a1 n1 c1 xs1 i1 a2 n2 c2 xs2 i2 k1 f1_0 f1_1 f1_2 f1_3 f1_4 k2 f2_0 f2_1 f2_2 f2_3 f2_4 x1 x2 _ (FS.below (B := w.heap.size) H1.out (HB1.out) (Nat.le_refl _)) (by omega) (FS.below (B := w.heap.size) H2.out (HB1.out) (Nat.le_refl _)) (by omega)).mono ?_
  rintro e w2 ⟨g1v, g2v, rfl, hb2, l0, l1, l2, o1v, o2v⟩
  have Qv : Hid (w1.heap.size + 0 ≤ g1v ∧ g1v < g2v ∧ g2v < w2.heap.size) := ⟨by simpa using l0, l1, l2⟩
  have S2 : Hid (w1.heap.size + 0 ≤ w2.heap.size) := by show _ ≤ _; have := hb2.size; simpa using this
  have kxn : blkAt w2 w.heap.size = some (.cells #[.slice a1 n1 c1, .int .i64 i1, .slice a2 n2 c2, .int .i64 i2, .int .i64 k1, .float .f32 f1_0, .float .f32 f1_1, .float .f32 f1_2, .float .f32 f1_3, .float .f32 f1_4, .int .i64 k2, .float .f32 f2_0, .float .f32 f2_1, .float .f32 f2_2, .float .f32 f2_3, .float .f32 f2_4, .float .f32 x1, .float .f32 x2] 48) := (hb2.block _ (ltb kx)).trans kx
  have HB2 := Lib.hid (bUp (HB1.out) hb2)
  clear kx
  have kx := kxn
  clear kxn
  clear yx
  have yx := ltb kx
  clear hb2
  have O1v := Lib.hid o1v
  clear o1v
  have O2v := Lib.hid o2v
  clear o2v
  clear l0 l1 l2
  go_wp2_with fail
  refine (HS.out _ _ _ _ _ O1v.out.fs O2v.out.fs).mono ?_
  rintro e w3 ⟨a1s, a2s, c1s, c2s, g1s, g2s, t_f1_0s, t_f1_1s, t_f1_2s, t_f1_3s, t_f1_4s, t_f2_0s, t_f2_1s, t_f2_2s, t_f2_3s, t_f2_4s, t_x1s, t_x2s, rfl, hb3, q1, q2, ne12s, o1s, o2s⟩
  have Q1s : Hid (0 < r_n1 → w2.heap.size + 0 ≤ g1s ∧ g1s < w3.heap.size) := fun h => ⟨by have := (q1 h).1; simpa using this, (q1 h).2⟩
  have Q2s : Hid (0 < r_n2 → w2.heap.size + 0 ≤ g2s ∧ g2s < w3.heap.size) := fun h => ⟨by have := (q2 h).1; simpa using this, (q2 h).2⟩
  have N0s := Lib.hid ne12s
  clear ne12s
  have S3 : Hid (w2.heap.size + 0 ≤ w3.heap.size) := by show _ ≤ _; have := hb3.size; simpa using this
  have kxn : blkAt w3 w.heap.size = some (.cells #[.slice a1 n1 c1, .int .i64 i1, .slice a2 n2 c2, .int .i64 i2, .int .i64 k1, .float .f32 f1_0, .float .f32 f1_1, .float .f32 f1_2, .float .f32 f1_3, .float .f32 f1_4, .int .i64 k2, .float .f32 f2_0, .float .f32 f2_1, .float .f32 f2_2, .float .f32 f2_3, .float .f32 f2_4, .float .f32 x1, .float .f32 x2] 48) := (hb3.block _ (ltb kx)).trans kx
  have HB3 := Lib.hid (bUp (HB2.out) hb3)
  have O1v := Lib.hid (O1v.out.below hb3 (Nat.le_refl _))
  have O2v := Lib.hid (O2v.out.below hb3 (Nat.le_refl _))
  clear kx
  have kx := kxn
  clear kxn
  clear yx
  have yx := ltb kx
  clear hb3
  have O1s := Lib.hid o1s
  clear o1s q1
  have O2s := Lib.hid o2s
  clear o2s q2
  clear O1v
  clear O2v
  have G3 : Below w3.heap.size w3 (w3.alloc (.cells #[.slice a1s r_n1 c1s, .int .i64 r_i1, .slice a2s r_n2 c2s, .int .i64 r_i2, .int .i64 r_k1, .float .f32 (nv .f32 r_f1_0 t_f1_0s), .float .f32 (nv .f32 r_f1_1 t_f1_1s), .float .f32 (nv .f32 r_f1_2 t_f1_2s), .float .f32 (nv .f32 r_f1_3 t_f1_3s), .float .f32 (nv .f32 r_f1_4 t_f1_4s), .int .i64 r_k2, .float .f32 (nv .f32 r_f2_0 t_f2_0s), .float .f32 (nv .f32 r_f2_1 t_f2_1s), .float .f32 (nv .f32 r_f2_2 t_f2_2s), .float .f32 (nv .f32 r_f2_3 t_f2_3s), .float .f32 (nv .f32 r_f2_4 t_f2_4s), .float .f32 (nv .f32 r_x1 t_x1s), .float .f32 (nv .f32 r_x2 t_x2s)] 31)) := Below.alloc (Below.refl _ _) (Nat.le_refl _) _
  go_wp2_with fail
  refine (c_toJet' a1 n1 c1 xs1 i1 a2 n2 c2 xs2 i2 k1 f1_0 f1_1 f1_2 f1_3 f1_4 k2 f2_0 f2_1 f2_2 f2_3 f2_4 x1 x2 _ (FS.below (B := w.heap.size) H1.out (bUp (HB3.out) G3) (Nat.le_refl _)) (by omega) (FS.below (B := w.heap.size) H2.out (bUp (HB3.out) G3) (Nat.le_refl _)) (by omega)).mono ?_
  rintro e w4 ⟨g1x, g2x, rfl, hb4, l0, l1, l2, o1x, o2x⟩
  have Qx : Hid (w3.heap.size + 1 ≤ g1x ∧ g1x < g2x ∧ g2x < w4.heap.size) := ⟨by simpa using l0, l1, l2⟩
  have S4 : Hid (w3.heap.size + 1 ≤ w4.heap.size) := by show _ ≤ _; have := hb4.size; simpa using this
  have kxn : blkAt w4 w.heap.size = some (.cells #[.slice a1 n1 c1, .int .i64 i1, .slice a2 n2 c2, .int .i64 i2, .int .i64 k1, .float .f32 f1_0, .float .f32 f1_1, .float .f32 f1_2, .float .f32 f1_3, .float .f32 f1_4, .int .i64 k2, .float .f32 f2_0, .float .f32 f2_1, .float .f32 f2_2, .float .f32 f2_3, .float .f32 f2_4, .float .f32 x1, .float .f32 x2] 48) := (hb4.block _ (ltb ((blk_alloc_ne w3 (.cells #[.slice a1s r_n1 c1s, .int .i64 r_i1, .slice a2s r_n2 c2s, .int .i64 r_i2, .int .i64 r_k1, .float .f32 (nv .f32 r_f1_0 t_f1_0s), .float .f32 (nv .f32 r_f1_1 t_f1_1s), .float .f32 (nv .f32 r_f1_2 t_f1_2s), .float .f32 (nv .f32 r_f1_3 t_f1_3s), .float .f32 (nv .f32 r_f1_4 t_f1_4s), .int .i64 r_k2, .float .f32 (nv .f32 r_f2_0 t_f2_0s), .float .f32 (nv .f32 r_f2_1 t_f2_1s), .float .f32 (nv .f32 r_f2_2 t_f2_2s), .float .f32 (nv .f32 r_f2_3 t_f2_3s), .float .f32 (nv .f32 r_f2_4 t_f2_4s), .float .f32 (nv .f32 r_x1 t_x1s), .float .f32 (nv .f32 r_x2 t_x2s)] 31) _ (ltb kx)).trans kx))).trans ((blk_alloc_ne w3 (.cells #[.slice a1s r_n1 c1s, .int .i64 r_i1, .slice a2s r_n2 c2s, .int .i64 r_i2, .int .i64 r_k1, .float .f32 (nv .f32 r_f1_0 t_f1_0s), .float .f32 (nv .f32 r_f1_1 t_f1_1s), .float .f32 (nv .f32 r_f1_2 t_f1_2s), .float .f32 (nv .f32 r_f1_3 t_f1_3s), .float .f32 (nv .f32 r_f1_4 t_f1_4s), .int .i64 r_k2, .float .f32 (nv .f32 r_f2_0 t_f2_0s), .float .f32 (nv .f32 r_f2_1 t_f2_1s), .float .f32 (nv .f32 r_f2_2 t_f2_2s), .float .f32 (nv .f32 r_f2_3 t_f2_3s), .float .f32 (nv .f32 r_f2_4 t_f2_4s), .float .f32 (nv .f32 r_x1 t_x1s), .float .f32 (nv .f32 r_x2 t_x2s)] 31) _ (ltb kx)).trans kx)
  have ksn : blkAt w4 w3.heap.size = some (.cells #[.slice a1s r_n1 c1s, .int .i64 r_i1, .slice a2s r_n2 c2s, .int .i64 r_i2, .int .i64 r_k1, .float .f32 (nv .f32 r_f1_0 t_f1_0s), .float .f32 (nv .f32 r_f1_1 t_f1_1s), .float .f32 (nv .f32 r_f1_2 t_f1_2s), .float .f32 (nv .f32 r_f1_3 t_f1_3s), .float .f32 (nv .f32 r_f1_4 t_f1_4s), .int .i64 r_k2, .float .f32 (nv .f32 r_f2_0 t_f2_0s), .float .f32 (nv .f32 r_f2_1 t_f2_1s), .float .f32 (nv .f32 r_f2_2 t_f2_2s), .float .f32 (nv .f32 r_f2_3 t_f2_3s), .float .f32 (nv .f32 r_f2_4 t_f2_4s), .float .f32 (nv .f32 r_x1 t_x1s), .float .f32 (nv .f32 r_x2 t_x2s)] 31) := (hb4.block _ (ltb (blk_alloc w3 (.cells #[.slice a1s r_n1 c1s, .int .i64 r_i1, .slice a2s r_n2 c2s, .int .i64 r_i2, .int .i64 r_k1, .float .f32 (nv .f32 r_f1_0 t_f1_0s), .float .f32 (nv .f32 r_f1_1 t_f1_1s), .float .f32 (nv .f32 r_f1_2 t_f1_2s), .float .f32 (nv .f32 r_f1_3 t_f1_3s), .float .f32 (nv .f32 r_f1_4 t_f1_4s), .int .i64 r_k2, .float .f32 (nv .f32 r_f2_0 t_f2_0s), .float .f32 (nv .f32 r_f2_1 t_f2_1s), .float .f32 (nv .f32 r_f2_2 t_f2_2s), .float .f32 (nv .f32 r_f2_3 t_f2_3s), .float .f32 (nv .f32 r_f2_4 t_f2_4s), .float .f32 (nv .f32 r_x1 t_x1s), .float .f32 (nv .f32 r_x2 t_x2s)] 31)))).trans (blk_alloc w3 (.cells #[.slice a1s r_n1 c1s, .int .i64 r_i1, .slice a2s r_n2 c2s, .int .i64 r_i2, .int .i64 r_k1, .float .f32 (nv .f32 r_f1_0 t_f1_0s), .float .f32 (nv .f32 r_f1_1 t_f1_1s), .float .f32 (nv .f32 r_f1_2 t_f1_2s), .float .f32 (nv .f32 r_f1_3 t_f1_3s), .float .f32 (nv .f32 r_f1_4 t_f1_4s), .int .i64 r_k2, .float .f32 (nv .f32 r_f2_0 t_f2_0s), .float .f32 (nv .f32 r_f2_1 t_f2_1s), .float .f32 (nv .f32 r_f2_2 t_f2_2s), .float .f32 (nv .f32 r_f2_3 t_f2_3s), .float .f32 (nv .f32 r_f2_4 t_f2_4s), .float .f32 (nv .f32 r_x1 t_x1s), .float .f32 (nv .f32 r_x2 t_x2s)] 31))
  have HB4 := Lib.hid (bUp (bUp (HB3.out) G3) hb4)
  have O1s := Lib.hid ((OF.below O1s.out G3 (Nat.le_refl _)).below hb4 (Nat.le_refl _))
  have O2s := Lib.hid ((OF.below O2s.out G3 (Nat.le_refl _)).below hb4 (Nat.le_refl _))
  clear kx
  have kx := kxn
  clear kxn
  clear yx
  have yx := ltb kx
  have ks := ksn
  clear ksn
  have ys := ltb ks
  clear hb4
  clear G3
  have O1x := Lib.hid o1x
  clear o1x
  have O2x := Lib.hid o2x
  clear o2x
  clear l0 l1 l2
  have G4 : Below w4.heap.size w4 (w4.alloc (.cells #[.slice (some ⟨g1x, 0, none⟩) n1 n1, .int .i64 i1, .slice (some ⟨g2x, 0, none⟩) n2 n2, .int .i64 i2, .int .i64 k1, .float .f32 f1_0, .float .f32 f1_1, .float .f32 f1_2, .float .f32 f1_3, .float .f32 f1_4, .int .i64 k2, .float .f32 f2_0, .float .f32 f2_1, .float .f32 f2_2, .float .f32 f2_3, .float .f32 f2_4, .float .f32 x1, .float .f32 x2] 31)) := Below.alloc (Below.refl _ _) (Nat.le_refl _) _
  go_wp2_with fail
  refine (HI.out _ _ _ _ _ (FS.below (B := w4.heap.size) O1x.out.fs G4 (Nat.le_refl _)) (FS.below (B := w4.heap.size) O2x.out.fs G4 (Nat.le_refl _))).mono ?_
  rintro e w5 ⟨a1i, a2i, c1i, c2i, g1i, g2i, t_f1_0i, t_f1_1i, t_f1_2i, t_f1_3i, t_f1_4i, t_f2_0i, t_f2_1i, t_f2_2i, t_f2_3i, t_f2_4i, t_x1i, t_x2i, rfl, hb5, q1, q2, ne12i, o1i, o2i⟩
  have Q1i : Hid (0 < r_n1 → w4.heap.size + 1 ≤ g1i ∧ g1i < w5.heap.size) := fun h => ⟨by have := (q1 h).1; simpa using this, (q1 h).2⟩
  have Q2i : Hid (0 < r_n2 → w4.heap.size + 1 ≤ g2i ∧ g2i < w5.heap.size) := fun h => ⟨by have := (q2 h).1; simpa using this, (q2 h).2⟩
  have N0i := Lib.hid ne12i
  clear ne12i
  have S5 : Hid (w4.heap.size + 1 ≤ w5.heap.size) := by show _ ≤ _; have := hb5.size; simpa using this
  have kxn : blkAt w5 w.heap.size = some (.cells #[.slice a1 n1 c1, .int .i64 i1, .slice a2 n2 c2, .int .i64 i2, .int .i64 k1, .float .f32 f1_0, .float .f32 f1_1, .float .f32 f1_2, .float .f32 f1_3, .float .f32 f1_4, .int .i64 k2, .float .f32 f2_0, .float .f32 f2_1, .float .f32 f2_2, .float .f32 f2_3, .float .f32 f2_4, .float .f32 x1, .float .f32 x2] 48) := (hb5.block _ (ltb ((blk_alloc_ne w4 (.cells #[.slice (some ⟨g1x, 0, none⟩) n1 n1, .int .i64 i1, .slice (some ⟨g2x, 0, none⟩) n2 n2, .int .i64 i2, .int .i64 k1, .float .f32 f1_0, .float .f32 f1_1, .float .f32 f1_2, .float .f32 f1_3, .float .f32 f1_4, .int .i64 k2, .float .f32 f2_0, .float .f32 f2_1, .float .f32 f2_2, .float .f32 f2_3, .float .f32 f2_4, .float .f32 x1, .float .f32 x2] 31) _ (ltb kx)).trans kx))).trans ((blk_alloc_ne w4 (.cells #[.slice (some ⟨g1x, 0, none⟩) n1 n1, .int .i64 i1, .slice (some ⟨g2x, 0, none⟩) n2 n2, .int .i64 i2, .int .i64 k1, .float .f32 f1_0, .float .f32 f1_1, .float .f32 f1_2, .float .f32 f1_3, .float .f32 f1_4, .int .i64 k2, .float .f32 f2_0, .float .f32 f2_1, .float .f32 f2_2, .float .f32 f2_3, .float .f32 f2_4, .float .f32 x1, .float .f32 x2] 31) _ (ltb kx)).trans kx)
  have ksn : blkAt w5 w3.heap.size = some (.cells #[.slice a1s r_n1 c1s, .int .i64 r_i1, .slice a2s r_n2 c2s, .int .i64 r_i2, .int .i64 r_k1, .float .f32 (nv .f32 r_f1_0 t_f1_0s), .float .f32 (nv .f32 r_f1_1 t_f1_1s), .float .f32 (nv .f32 r_f1_2 t_f1_2s), .float .f32 (nv .f32 r_f1_3 t_f1_3s), .float .f32 (nv .f32 r_f1_4 t_f1_4s), .int .i64 r_k2, .float .f32 (nv .f32 r_f2_0 t_f2_0s), .float .f32 (nv .f32 r_f2_1 t_f2_1s), .float .f32 (nv .f32 r_f2_2 t_f2_2s), .float .f32 (nv .f32 r_f2_3 t_f2_3s), .float .f32 (nv .f32 r_f2_4 t_f2_4s), .float .f32 (nv .f32 r_x1 t_x1s), .float .f32 (nv .f32 r_x2 t_x2s)] 31) := (hb5.block _ (ltb ((blk_alloc_ne w4 (.cells #[.slice (some ⟨g1x, 0, none⟩) n1 n1, .int .i64 i1, .slice (some ⟨g2x, 0, none⟩) n2 n2, .int .i64 i2, .int .i64 k1, .float .f32 f1_0, .float .f32 f1_1, .float .f32 f1_2, .float .f32 f1_3, .float .f32 f1_4, .int .i64 k2, .float .f32 f2_0, .float .f32 f2_1, .float .f32 f2_2, .float .f32 f2_3, .float .f32 f2_4, .float .f32 x1, .float .f32 x2] 31) _ (ltb ks)).trans ks))).trans ((blk_alloc_ne w4 (.cells #[.slice (some ⟨g1x, 0, none⟩) n1 n1, .int .i64 i1, .slice (some ⟨g2x, 0, none⟩) n2 n2, .int .i64 i2, .int .i64 k1, .float .f32 f1_0, .float .f32 f1_1, .float .f32 f1_2, .float .f32 f1_3, .float .f32 f1_4, .int .i64 k2, .float .f32 f2_0, .float .f32 f2_1, .float .f32 f2_2, .float .f32 f2_3, .float .f32 f2_4, .float .f32 x1, .float .f32 x2] 31) _ (ltb ks)).trans ks)
  have kzn : blkAt w5 w4.heap.size = some (.cells #[.slice (some ⟨g1x, 0, none⟩) n1 n1, .int .i64 i1, .slice (some ⟨g2x, 0, none⟩) n2 n2, .int .i64 i2, .int .i64 k1, .float .f32 f1_0, .float .f32 f1_1, .float .f32 f1_2, .float .f32 f1_3, .float .f32 f1_4, .int .i64 k2, .float .f32 f2_0, .float .f32 f2_1, .float .f32 f2_2, .float .f32 f2_3, .float .f32 f2_4, .float .f32 x1, .float .f32 x2] 31) := (hb5.block _ (ltb (blk_alloc w4 (.cells #[.slice (some ⟨g1x, 0, none⟩) n1 n1, .int .i64 i1, .slice (some ⟨g2x, 0, none⟩) n2 n2, .int .i64 i2, .int .i64 k1, .float .f32 f1_0, .float .f32 f1_1, .float .f32 f1_2, .float .f32 f1_3, .float .f32 f1_4, .int .i64 k2, .float .f32 f2_0, .float .f32 f2_1, .float .f32 f2_2, .float .f32 f2_3, .float .f32 f2_4, .float .f32 x1, .float .f32 x2] 31)))).trans (blk_alloc w4 (.cells #[.slice (some ⟨g1x, 0, none⟩) n1 n1, .int .i64 i1, .slice (some ⟨g2x, 0, none⟩) n2 n2, .int .i64 i2, .int .i64 k1, .float .f32 f1_0, .float .f32 f1_1, .float .f32 f1_2, .float .f32 f1_3, .float .f32 f1_4, .int .i64 k2, .float .f32 f2_0, .float .f32 f2_1, .float .f32 f2_2, .float .f32 f2_3, .float .f32 f2_4, .float .f32 x1, .float .f32 x2] 31))
  have HB5 := Lib.hid (bUp (bUp (HB4.out) G4) hb5)
  have O1s := Lib.hid ((OF.below O1s.out G4 (Nat.le_refl _)).below hb5 (Nat.le_refl _))
  have O2s := Lib.hid ((OF.below O2s.out G4 (Nat.le_refl _)).below hb5 (Nat.le_refl _))
  have O1x := Lib.hid ((OF.below O1x.out G4 (Nat.le_refl _)).below hb5 (Nat.le_refl _))
  have O2x := Lib.hid ((OF.below O2x.out G4 (Nat.le_refl _)).below hb5 (Nat.le_refl _))
  clear kx
  have kx := kxn
  clear kxn
  clear yx
  have yx := ltb kx
  clear ks
  have ks := ksn
  clear ksn
  clear ys
  have ys := ltb ks
  have kz := kzn
  clear kzn
  have yz := ltb kz
  clear hb5
  clear G4
  have O1i := Lib.hid o1i
  clear o1i q1
  have O2i := Lib.hid o2i
  clear o2i q2
  have G5 : Below w5.heap.size w5 (w5.alloc (.cells #[.slice a1i r_n1 c1i, .int .i64 r_i1, .slice a2i r_n2 c2i, .int .i64 r_i2, .int .i64 r_k1, .float .f32 (nv .f32 r_f1_0 t_f1_0i), .float .f32 (nv .f32 r_f1_1 t_f1_1i), .float .f32 (nv .f32 r_f1_2 t_f1_2i), .float .f32 (nv .f32 r_f1_3 t_f1_3i), .float .f32 (nv .f32 r_f1_4 t_f1_4i), .int .i64 r_k2, .float .f32 (nv .f32 r_f2_0 t_f2_0i), .float .f32 (nv .f32 r_f2_1 t_f2_1i), .float .f32 (nv .f32 r_f2_2 t_f2_2i), .float .f32 (nv .f32 r_f2_3 t_f2_3i), .float .f32 (nv .f32 r_f2_4 t_f2_4i), .float .f32 (nv .f32 r_x1 t_x1i), .float .f32 (nv .f32 r_x2 t_x2i)] 31)) := Below.alloc (Below.refl _ _) (Nat.le_refl _) _
  go_wp2_with fail
  refine (c_eqJet' _ _ _ _ _ _ _ _ _ _ _ _ _ _ _ _ _ _ _ _ _ _ _ _ _ _ _ _ _ _ _ _ _ _ _ _ _ _ _ _ _ _ _ (FS.below (B := w5.heap.size) O1i.out.fs G5 (Nat.le_refl _)) (FS.below (B := w5.heap.size) O1s.out.fs G5 (Nat.le_refl _)) (Alk.refl _) (FS.below (B := w5.heap.size) O2i.out.fs G5 (Nat.le_refl _)) (FS.below (B := w5.heap.size) O2s.out.fs G5 (Nat.le_refl _)) (Alk.refl _) ⟨up_nv2 _ _ _, up_nv2 _ _ _, up_nv2 _ _ _, up_nv2 _ _ _, up_nv2 _ _ _⟩ ⟨up_nv2 _ _ _, up_nv2 _ _ _, up_nv2 _ _ _, up_nv2 _ _ _, up_nv2 _ _ _⟩ (up_nv2 _ _ _) (up_nv2 _ _ _)).mono ?_
  rintro e w6 ⟨rfl, hb6⟩
  have S6 : Hid (w5.heap.size + 1 ≤ w6.heap.size) := by show _ ≤ _; have := hb6.size; simpa using this
  have kxn : blkAt w6 w.heap.size = some (.cells #[.slice a1 n1 c1, .int .i64 i1, .slice a2 n2 c2, .int .i64 i2, .int .i64 k1, .float .f32 f1_0, .float .f32 f1_1, .float .f32 f1_2, .float .f32 f1_3, .float .f32 f1_4, .int .i64 k2, .float .f32 f2_0, .float .f32 f2_1, .float .f32 f2_2, .float .f32 f2_3, .float .f32 f2_4, .float .f32 x1, .float .f32 x2] 48) := (hb6.block _ (ltb ((blk_alloc_ne w5 (.cells #[.slice a1i r_n1 c1i, .int .i64 r_i1, .slice a2i r_n2 c2i, .int .i64 r_i2, .int .i64 r_k1, .float .f32 (nv .f32 r_f1_0 t_f1_0i), .float .f32 (nv .f32 r_f1_1 t_f1_1i), .float .f32 (nv .f32 r_f1_2 t_f1_2i), .float .f32 (nv .f32 r_f1_3 t_f1_3i), .float .f32 (nv .f32 r_f1_4 t_f1_4i), .int .i64 r_k2, .float .f32 (nv .f32 r_f2_0 t_f2_0i), .float .f32 (nv .f32 r_f2_1 t_f2_1i), .float .f32 (nv .f32 r_f2_2 t_f2_2i), .float .f32 (nv .f32 r_f2_3 t_f2_3i), .float .f32 (nv .f32 r_f2_4 t_f2_4i), .float .f32 (nv .f32 r_x1 t_x1i), .float .f32 (nv .f32 r_x2 t_x2i)] 31) _ (ltb kx)).trans kx))).trans ((blk_alloc_ne w5 (.cells #[.slice a1i r_n1 c1i, .int .i64 r_i1, .slice a2i r_n2 c2i, .int .i64 r_i2, .int .i64 r_k1, .float .f32 (nv .f32 r_f1_0 t_f1_0i), .float .f32 (nv .f32 r_f1_1 t_f1_1i), .float .f32 (nv .f32 r_f1_2 t_f1_2i), .float .f32 (nv .f32 r_f1_3 t_f1_3i), .float .f32 (nv .f32 r_f1_4 t_f1_4i), .int .i64 r_k2, .float .f32 (nv .f32 r_f2_0 t_f2_0i), .float .f32 (nv .f32 r_f2_1 t_f2_1i), .float .f32 (nv .f32 r_f2_2 t_f2_2i), .float .f32 (nv .f32 r_f2_3 t_f2_3i), .float .f32 (nv .f32 r_f2_4 t_f2_4i), .float .f32 (nv .f32 r_x1 t_x1i), .float .f32 (nv .f32 r_x2 t_x2i)] 31) _ (ltb kx)).trans kx)
  have ksn : blkAt w6 w3.heap.size = some (.cells #[.slice a1s r_n1 c1s, .int .i64 r_i1, .slice a2s r_n2 c2s, .int .i64 r_i2, .int .i64 r_k1, .float .f32 (nv .f32 r_f1_0 t_f1_0s), .float .f32 (nv .f32 r_f1_1 t_f1_1s), .float .f32 (nv .f32 r_f1_2 t_f1_2s), .float .f32 (nv .f32 r_f1_3 t_f1_3s), .float .f32 (nv .f32 r_f1_4 t_f1_4s), .int .i64 r_k2, .float .f32 (nv .f32 r_f2_0 t_f2_0s), .float .f32 (nv .f32 r_f2_1 t_f2_1s), .float .f32 (nv .f32 r_f2_2 t_f2_2s), .float .f32 (nv .f32 r_f2_3 t_f2_3s), .float .f32 (nv .f32 r_f2_4 t_f2_4s), .float .f32 (nv .f32 r_x1 t_x1s), .float .f32 (nv .f32 r_x2 t_x2s)] 31) := (hb6.block _ (ltb ((blk_alloc_ne w5 (.cells #[.slice a1i r_n1 c1i, .int .i64 r_i1, .slice a2i r_n2 c2i, .int .i64 r_i2, .int .i64 r_k1, .float .f32 (nv .f32 r_f1_0 t_f1_0i), .float .f32 (nv .f32 r_f1_1 t_f1_1i), .float .f32 (nv .f32 r_f1_2 t_f1_2i), .float .f32 (nv .f32 r_f1_3 t_f1_3i), .float .f32 (nv .f32 r_f1_4 t_f1_4i), .int .i64 r_k2, .float .f32 (nv .f32 r_f2_0 t_f2_0i), .float .f32 (nv .f32 r_f2_1 t_f2_1i), .float .f32 (nv .f32 r_f2_2 t_f2_2i), .float .f32 (nv .f32 r_f2_3 t_f2_3i), .float .f32 (nv .f32 r_f2_4 t_f2_4i), .float .f32 (nv .f32 r_x1 t_x1i), .float .f32 (nv .f32 r_x2 t_x2i)] 31) _ (ltb ks)).trans ks))).trans ((blk_alloc_ne w5 (.cells #[.slice a1i r_n1 c1i, .int .i64 r_i1, .slice a2i r_n2 c2i, .int .i64 r_i2, .int .i64 r_k1, .float .f32 (nv .f32 r_f1_0 t_f1_0i), .float .f32 (nv .f32 r_f1_1 t_f1_1i), .float .f32 (nv .f32 r_f1_2 t_f1_2i), .float .f32 (nv .f32 r_f1_3 t_f1_3i), .float .f32 (nv .f32 r_f1_4 t_f1_4i), .int .i64 r_k2, .float .f32 (nv .f32 r_f2_0 t_f2_0i), .float .f32 (nv .f32 r_f2_1 t_f2_1i), .float .f32 (nv .f32 r_f2_2 t_f2_2i), .float .f32 (nv .f32 r_f2_3 t_f2_3i), .float .f32 (nv .f32 r_f2_4 t_f2_4i), .float .f32 (nv .f32 r_x1 t_x1i), .float .f32 (nv .f32 r_x2 t_x2i)] 31) _ (ltb ks)).trans ks)
  have kzn : blkAt w6 w4.heap.size = some (.cells #[.slice (some ⟨g1x, 0, none⟩) n1 n1, .int .i64 i1, .slice (some ⟨g2x, 0, none⟩) n2 n2, .int .i64 i2, .int .i64 k1, .float .f32 f1_0, .float .f32 f1_1, .float .f32 f1_2, .float .f32 f1_3, .float .f32 f1_4, .int .i64 k2, .float .f32 f2_0, .float .f32 f2_1, .float .f32 f2_2, .float .f32 f2_3, .float .f32 f2_4, .float .f32 x1, .float .f32 x2] 31) := (hb6.block _ (ltb ((blk_alloc_ne w5 (.cells #[.slice a1i r_n1 c1i, .int .i64 r_i1, .slice a2i r_n2 c2i, .int .i64 r_i2, .int .i64 r_k1, .float .f32 (nv .f32 r_f1_0 t_f1_0i), .float .f32 (nv .f32 r_f1_1 t_f1_1i), .float .f32 (nv .f32 r_f1_2 t_f1_2i), .float .f32 (nv .f32 r_f1_3 t_f1_3i), .float .f32 (nv .f32 r_f1_4 t_f1_4i), .int .i64 r_k2, .float .f32 (nv .f32 r_f2_0 t_f2_0i), .float .f32 (nv .f32 r_f2_1 t_f2_1i), .float .f32 (nv .f32 r_f2_2 t_f2_2i), .float .f32 (nv .f32 r_f2_3 t_f2_3i), .float .f32 (nv .f32 r_f2_4 t_f2_4i), .float .f32 (nv .f32 r_x1 t_x1i), .float .f32 (nv .f32 r_x2 t_x2i)] 31) _ (ltb kz)).trans kz))).trans ((blk_alloc_ne w5 (.cells #[.slice a1i r_n1 c1i, .int .i64 r_i1, .slice a2i r_n2 c2i, .int .i64 r_i2, .int .i64 r_k1, .float .f32 (nv .f32 r_f1_0 t_f1_0i), .float .f32 (nv .f32 r_f1_1 t_f1_1i), .float .f32 (nv .f32 r_f1_2 t_f1_2i), .float .f32 (nv .f32 r_f1_3 t_f1_3i), .float .f32 (nv .f32 r_f1_4 t_f1_4i), .int .i64 r_k2, .float .f32 (nv .f32 r_f2_0 t_f2_0i), .float .f32 (nv .f32 r_f2_1 t_f2_1i), .float .f32 (nv .f32 r_f2_2 t_f2_2i), .float .f32 (nv .f32 r_f2_3 t_f2_3i), .float .f32 (nv .f32 r_f2_4 t_f2_4i), .float .f32 (nv .f32 r_x1 t_x1i), .float .f32 (nv .f32 r_x2 t_x2i)] 31) _ (ltb kz)).trans kz)
  have kin : blkAt w6 w5.heap.size = some (.cells #[.slice a1i r_n1 c1i, .int .i64 r_i1, .slice a2i r_n2 c2i, .int .i64 r_i2, .int .i64 r_k1, .float .f32 (nv .f32 r_f1_0 t_f1_0i), .float .f32 (nv .f32 r_f1_1 t_f1_1i), .float .f32 (nv .f32 r_f1_2 t_f1_2i), .float .f32 (nv .f32 r_f1_3 t_f1_3i), .float .f32 (nv .f32 r_f1_4 t_f1_4i), .int .i64 r_k2, .float .f32 (nv .f32 r_f2_0 t_f2_0i), .float .f32 (nv .f32 r_f2_1 t_f2_1i), .float .f32 (nv .f32 r_f2_2 t_f2_2i), .float .f32 (nv .f32 r_f2_3 t_f2_3i), .float .f32 (nv .f32 r_f2_4 t_f2_4i), .float .f32 (nv .f32 r_x1 t_x1i), .float .f32 (nv .f32 r_x2 t_x2i)] 31) := (hb6.block _ (ltb (blk_alloc w5 (.cells #[.slice a1i r_n1 c1i, .int .i64 r_i1, .slice a2i r_n2 c2i, .int .i64 r_i2, .int .i64 r_k1, .float .f32 (nv .f32 r_f1_0 t_f1_0i), .float .f32 (nv .f32 r_f1_1 t_f1_1i), .float .f32 (nv .f32 r_f1_2 t_f1_2i), .float .f32 (nv .f32 r_f1_3 t_f1_3i), .float .f32 (nv .f32 r_f1_4 t_f1_4i), .int .i64 r_k2, .float .f32 (nv .f32 r_f2_0 t_f2_0i), .float .f32 (nv .f32 r_f2_1 t_f2_1i), .float .f32 (nv .f32 r_f2_2 t_f2_2i), .float .f32 (nv .f32 r_f2_3 t_f2_3i), .float .f32 (nv .f32 r_f2_4 t_f2_4i), .float .f32 (nv .f32 r_x1 t_x1i), .float .f32 (nv .f32 r_x2 t_x2i)] 31)))).trans (blk_alloc w5 (.cells #[.slice a1i r_n1 c1i, .int .i64 r_i1, .slice a2i r_n2 c2i, .int .i64 r_i2, .int .i64 r_k1, .float .f32 (nv .f32 r_f1_0 t_f1_0i), .float .f32 (nv .f32 r_f1_1 t_f1_1i), .float .f32 (nv .f32 r_f1_2 t_f1_2i), .float .f32 (nv .f32 r_f1_3 t_f1_3i), .float .f32 (nv .f32 r_f1_4 t_f1_4i), .int .i64 r_k2, .float .f32 (nv .f32 r_f2_0 t_f2_0i), .float .f32 (nv .f32 r_f2_1 t_f2_1i), .float .f32 (nv .f32 r_f2_2 t_f2_2i), .float .f32 (nv .f32 r_f2_3 t_f2_3i), .float .f32 (nv .f32 r_f2_4 t_f2_4i), .float .f32 (nv .f32 r_x1 t_x1i), .float .f32 (nv .f32 r_x2 t_x2i)] 31))
  have HB6 := Lib.hid (bUp (bUp (HB5.out) G5) hb6)
  have O1s := Lib.hid ((OF.below O1s.out G5 (Nat.le_refl _)).below hb6 (Nat.le_refl _))
  have O2s := Lib.hid ((OF.below O2s.out G5 (Nat.le_refl _)).below hb6 (Nat.le_refl _))
  have O1x := Lib.hid ((OF.below O1x.out G5 (Nat.le_refl _)).below hb6 (Nat.le_refl _))
  have O2x := Lib.hid ((OF.below O2x.out G5 (Nat.le_refl _)).below hb6 (Nat.le_refl _))
  have O1i := Lib.hid ((OF.below O1i.out G5 (Nat.le_refl _)).below hb6 (Nat.le_refl _))
  have O2i := Lib.hid ((OF.below O2i.out G5 (Nat.le_refl _)).below hb6 (Nat.le_refl _))
  clear kx
  have kx := kxn
  clear kxn
  clear yx
  have yx := ltb kx
  clear ks
  have ks := ksn
  clear ksn
  clear ys
  have ys := ltb ks
  clear kz
  have kz := kzn
  clear kzn
  clear yz
  have yz := ltb kz
  have ki := kin
  clear kin
  have yi := ltb ki
  clear hb6
  clear G5
  have o1x_6 := O1x.out
  have o2x_6 := O2x.out
  have b6 : Below w.heap.size w w6 := (HB6.out)
  go_wp2_with fail
  refine wp_region_grow [3] [2] (by kernel_rfl) (by kernel_rfl) (by kernel_rfl) ?_
  apply Exists.intro
  iterate 2 (apply lh_o; kernel_rfl; kernel_rfl; kernel_rfl; (intro W hW; have hWc := Grow.cells hW; have hWk := bblk hW; go_simp; exact ⟨OneV.mk _, Grow.refl _⟩))
  apply lh_w (fun g : Nat × Nat => Value.agg #[.slice (some ⟨g.1, 0, none⟩) n1 n1, .int .i64 i1, .slice (some ⟨g.2, 0, none⟩) n2 n2, .int .i64 i2, .int .i64 k1, .float .f32 f1_0, .float .f32 f1_1, .float .f32 f1_2, .float .f32 f1_3, .float .f32 f1_4, .int .i64 k2, .float .f32 f2_0, .float .f32 f2_1, .float .f32 f2_2, .float .f32 f2_3, .float .f32 f2_4, .float .f32 x1, .float .f32 x2]) (fun g w' => w6.heap.size ≤ g.1 ∧ g.1 < g.2 ∧ g.2 < w'.heap.size ∧ OF w' g.1 (some ⟨g.1, 0, none⟩) n1 n1 xs1 ∧ OF w' g.2 (some ⟨g.2, 0, none⟩) n2 n2 xs2) (0, 0) (fun g w w' h hg => ⟨h.1, h.2.1, Nat.lt_of_lt_of_le h.2.2.1 hg.size, OF.below h.2.2.2.1 hg (Nat.le_refl _), OF.below h.2.2.2.2 hg (Nat.le_refl _)⟩) (fun i j h => by simp at h; first | exact h | (obtain ⟨i1, i2⟩ := i; obtain ⟨j1, j2⟩ := j; simp at h; simp [h]))
  kernel_rfl
  kernel_rfl
  kernel_rfl
  · intro W hW
    have hWc := Grow.cells hW
    go_simp
    exact (c_toJet' a1 n1 c1 xs1 i1 a2 n2 c2 xs2 i2 k1 f1_0 f1_1 f1_2 f1_3 f1_4 k2 f2_0 f2_1 f2_2 f2_3 f2_4 x1 x2 W (FS.below (B := w.heap.size) H1.out (b6.trans (Below.mono hW b6.size)) (Nat.le_refl _)) (by omega) (FS.below (B := w.heap.size) H2.out (b6.trans (Below.mono hW b6.size)) (Nat.le_refl _)) (by omega)).mono fun e w' ⟨t1, t2, he, hb, l0, l1, l2, o1, o2⟩ => ⟨(t1, t2), he, ⟨Nat.le_trans hW.size l0, l1, l2, o1, o2⟩, hb⟩
  exact anti
  intro g
  (apply lh_h; kernel_rfl; kernel_rfl; kernel_rfl; (intro W hW; obtain ⟨hG, hK⟩ := hW; have hWc := Grow.cells hG; go_simp; exact gV (c_eqJet' _ _ _ _ _ _ _ _ _ _ _ _ _ _ _ _ _ _ _ _ _ _ _ _ _ _ _ _ _ _ _ _ _ _ _ _ _ _ _ _ _ _ W (FS.below (B := w6.heap.size) o1x_6.fs hG (Nat.le_refl _)) (hK.2.2.2.1).fs (Alk.refl _) (FS.below (B := w6.heap.size) o2x_6.fs hG (Nat.le_refl _)) (hK.2.2.2.2).fs (Alk.refl _) ⟨rfl, rfl, rfl, rfl, rfl⟩ ⟨rfl, rfl, rfl, rfl, rfl⟩ rfl rfl)))
  (apply lh_o; kernel_rfl; kernel_rfl; kernel_rfl; (intro W hW; have hWc := Grow.cells hW; go_simp; exact ⟨OneV.mk _, Grow.refl _⟩))
  refine lh_nil ?_
  intro w7 hW7
  simp only [Act.put, List.setIfInBounds_toArray, List.set_cons_succ, List.set_cons_zero]
  have hb7 : Below w6.heap.size w6 w7 := hW7.1
  clear hW7
  clear o1x_6
  clear o2x_6
  clear b6
  have S7 : Hid (w6.heap.size + 0 ≤ w7.heap.size) := by show _ ≤ _; have := hb7.size; simpa using this
  have kxn : blkAt w7 w.heap.size = some (.cells #[.slice a1 n1 c1, .int .i64 i1, .slice a2 n2 c2, .int .i64 i2, .int .i64 k1, .float .f32 f1_0, .float .f32 f1_1, .float .f32 f1_2, .float .f32 f1_3, .float .f32 f1_4, .int .i64 k2, .float .f32 f2_0, .float .f32 f2_1, .float .f32 f2_2, .float .f32 f2_3, .float .f32 f2_4, .float .f32 x1, .float .f32 x2] 48) := (hb7.block _ (ltb kx)).trans kx
  have ksn : blkAt w7 w3.heap.size = some (.cells #[.slice a1s r_n1 c1s, .int .i64 r_i1, .slice a2s r_n2 c2s, .int .i64 r_i2, .int .i64 r_k1, .float .f32 (nv .f32 r_f1_0 t_f1_0s), .float .f32 (nv .f32 r_f1_1 t_f1_1s), .float .f32 (nv .f32 r_f1_2 t_f1_2s), .float .f32 (nv .f32 r_f1_3 t_f1_3s), .float .f32 (nv .f32 r_f1_4 t_f1_4s), .int .i64 r_k2, .float .f32 (nv .f32 r_f2_0 t_f2_0s), .float .f32 (nv .f32 r_f2_1 t_f2_1s), .float .f32 (nv .f32 r_f2_2 t_f2_2s), .float .f32 (nv .f32 r_f2_3 t_f2_3s), .float .f32 (nv .f32 r_f2_4 t_f2_4s), .float .f32 (nv .f32 r_x1 t_x1s), .float .f32 (nv .f32 r_x2 t_x2s)] 31) := (hb7.block _ (ltb ks)).trans ks
  have kzn : blkAt w7 w4.heap.size = some (.cells #[.slice (some ⟨g1x, 0, none⟩) n1 n1, .int .i64 i1, .slice (some ⟨g2x, 0, none⟩) n2 n2, .int .i64 i2, .int .i64 k1, .float .f32 f1_0, .float .f32 f1_1, .float .f32 f1_2, .float .f32 f1_3, .float .f32 f1_4, .int .i64 k2, .float .f32 f2_0, .float .f32 f2_1, .float .f32 f2_2, .float .f32 f2_3, .float .f32 f2_4, .float .f32 x1, .float .f32 x2] 31) := (hb7.block _ (ltb kz)).trans kz
  have kin : blkAt w7 w5.heap.size = some (.cells #[.slice a1i r_n1 c1i, .int .i64 r_i1, .slice a2i r_n2 c2i, .int .i64 r_i2, .int .i64 r_k1, .float .f32 (nv .f32 r_f1_0 t_f1_0i), .float .f32 (nv .f32 r_f1_1 t_f1_1i), .float .f32 (nv .f32 r_f1_2 t_f1_2i), .float .f32 (nv .f32 r_f1_3 t_f1_3i), .float .f32 (nv .f32 r_f1_4 t_f1_4i), .int .i64 r_k2, .float .f32 (nv .f32 r_f2_0 t_f2_0i), .float .f32 (nv .f32 r_f2_1 t_f2_1i), .float .f32 (nv .f32 r_f2_2 t_f2_2i), .float .f32 (nv .f32 r_f2_3 t_f2_3i), .float .f32 (nv .f32 r_f2_4 t_f2_4i), .float .f32 (nv .f32 r_x1 t_x1i), .float .f32 (nv .f32 r_x2 t_x2i)] 31) := (hb7.block _ (ltb ki)).trans ki
  have HB7 := Lib.hid (bUp (HB6.out) hb7)
  have O1s := Lib.hid (O1s.out.below hb7 (Nat.le_refl _))
  have O2s := Lib.hid (O2s.out.below hb7 (Nat.le_refl _))
  have O1x := Lib.hid (O1x.out.below hb7 (Nat.le_refl _))
  have O2x := Lib.hid (O2x.out.below hb7 (Nat.le_refl _))
  have O1i := Lib.hid (O1i.out.below hb7 (Nat.le_refl _))
  have O2i := Lib.hid (O2i.out.below hb7 (Nat.le_refl _))
  clear kx
  have kx := kxn
  clear kxn
  clear yx
  have yx := ltb kx
  clear ks
  have ks := ksn
  clear ksn
  clear ys
  have ys := ltb ks
  clear kz
  have kz := kzn
  clear kzn
  clear yz
  have yz := ltb kz
  clear ki
  have ki := kin
  clear kin
  clear yi
  have yi := ltb ki
  clear hb7
  go_wp2_with fail
  have lt1 : 0 < n1 → g1x < w7.heap.size := fun hpos => by
    have s1 := S1.out
    have s2 := S2.out
    have s3 := S3.out
    have s4 := S4.out
    have s5 := S5.out
    have s6 := S6.out
    have s7 := S7.out
    have q1s_ := Q1s.out
    have q2s_ := Q2s.out
    have n0s_ := N0s.out
    have qx_ := Qx.out
    have q1i_ := Q1i.out
    have q2i_ := Q2i.out
    have n0i_ := N0i.out
    omega
  have lt2 : 0 < n2 → g2x < w7.heap.size := fun hpos => by
    have s1 := S1.out
    have s2 := S2.out
    have s3 := S3.out
    have s4 := S4.out
    have s5 := S5.out
    have s6 := S6.out
    have s7 := S7.out
    have q1s_ := Q1s.out
    have q2s_ := Q2s.out
    have n0s_ := N0s.out
    have qx_ := Qx.out
    have q1i_ := Q1i.out
    have q2i_ := Q2i.out
    have n0i_ := N0i.out
    omega
  have nn12 : g1x ≠ g2x := by
    have s1 := S1.out
    have s2 := S2.out
    have s3 := S3.out
    have s4 := S4.out
    have s5 := S5.out
    have s6 := S6.out
    have s7 := S7.out
    have q1s_ := Q1s.out
    have q2s_ := Q2s.out
    have n0s_ := N0s.out
    have qx_ := Qx.out
    have q1i_ := Q1i.out
    have q2i_ := Q2i.out
    have n0i_ := N0i.out
    omega
  refine (c_markJet' g1x g2x _ _ _ xs1 _ _ _ _ xs2 _ _ _ _ _ _ _ _ _ _ _ _ _ _ _ 1 _ O1x.out lt1 O2x.out lt2 nn12 (by omega) (by omega)).mono ?_
  rintro e w8 ⟨rfl, wr8, o1x, o2x⟩
  have S8 : Hid (w7.heap.size + 0 ≤ w8.heap.size) := by show _ ≤ _; have := wr8.size; simpa using this
  have kxn : blkAt w8 w.heap.size = some (.cells #[.slice a1 n1 c1, .int .i64 i1, .slice a2 n2 c2, .int .i64 i2, .int .i64 k1, .float .f32 f1_0, .float .f32 f1_1, .float .f32 f1_2, .float .f32 f1_3, .float .f32 f1_4, .int .i64 k2, .float .f32 f2_0, .float .f32 f2_1, .float .f32 f2_2, .float .f32 f2_3, .float .f32 f2_4, .float .f32 x1, .float .f32 x2] 48) := (wr8.block _ (ltb kx) (by
    simp only [List.mem_append, mem_gl]
    have s1 := S1.out
    have s2 := S2.out
    have s3 := S3.out
    have s4 := S4.out
    have s5 := S5.out
    have s6 := S6.out
    have s7 := S7.out
    have s8 := S8.out
    have q1s_ := Q1s.out
    have q2s_ := Q2s.out
    have n0s_ := N0s.out
    have qx_ := Qx.out
    have q1i_ := Q1i.out
    have q2i_ := Q2i.out
    have n0i_ := N0i.out
    omega)).trans kx
  have ksn : blkAt w8 w3.heap.size = some (.cells #[.slice a1s r_n1 c1s, .int .i64 r_i1, .slice a2s r_n2 c2s, .int .i64 r_i2, .int .i64 r_k1, .float .f32 (nv .f32 r_f1_0 t_f1_0s), .float .f32 (nv .f32 r_f1_1 t_f1_1s), .float .f32 (nv .f32 r_f1_2 t_f1_2s), .float .f32 (nv .f32 r_f1_3 t_f1_3s), .float .f32 (nv .f32 r_f1_4 t_f1_4s), .int .i64 r_k2, .float .f32 (nv .f32 r_f2_0 t_f2_0s), .float .f32 (nv .f32 r_f2_1 t_f2_1s), .float .f32 (nv .f32 r_f2_2 t_f2_2s), .float .f32 (nv .f32 r_f2_3 t_f2_3s), .float .f32 (nv .f32 r_f2_4 t_f2_4s), .float .f32 (nv .f32 r_x1 t_x1s), .float .f32 (nv .f32 r_x2 t_x2s)] 31) := (wr8.block _ (ltb ks) (by
    simp only [List.mem_append, mem_gl]
    have s1 := S1.out
    have s2 := S2.out
    have s3 := S3.out
    have s4 := S4.out
    have s5 := S5.out
    have s6 := S6.out
    have s7 := S7.out
    have s8 := S8.out
    have q1s_ := Q1s.out
    have q2s_ := Q2s.out
    have n0s_ := N0s.out
    have qx_ := Qx.out
    have q1i_ := Q1i.out
    have q2i_ := Q2i.out
    have n0i_ := N0i.out
    omega)).trans ks
  have kzn : blkAt w8 w4.heap.size = some (.cells #[.slice (some ⟨g1x, 0, none⟩) n1 n1, .int .i64 i1, .slice (some ⟨g2x, 0, none⟩) n2 n2, .int .i64 i2, .int .i64 k1, .float .f32 f1_0, .float .f32 f1_1, .float .f32 f1_2, .float .f32 f1_3, .float .f32 f1_4, .int .i64 k2, .float .f32 f2_0, .float .f32 f2_1, .float .f32 f2_2, .float .f32 f2_3, .float .f32 f2_4, .float .f32 x1, .float .f32 x2] 31) := (wr8.block _ (ltb kz) (by
    simp only [List.mem_append, mem_gl]
    have s1 := S1.out
    have s2 := S2.out
    have s3 := S3.out
    have s4 := S4.out
    have s5 := S5.out
    have s6 := S6.out
    have s7 := S7.out
    have s8 := S8.out
    have q1s_ := Q1s.out
    have q2s_ := Q2s.out
    have n0s_ := N0s.out
    have qx_ := Qx.out
    have q1i_ := Q1i.out
    have q2i_ := Q2i.out
    have n0i_ := N0i.out
    omega)).trans kz
  have kin : blkAt w8 w5.heap.size = some (.cells #[.slice a1i r_n1 c1i, .int .i64 r_i1, .slice a2i r_n2 c2i, .int .i64 r_i2, .int .i64 r_k1, .float .f32 (nv .f32 r_f1_0 t_f1_0i), .float .f32 (nv .f32 r_f1_1 t_f1_1i), .float .f32 (nv .f32 r_f1_2 t_f1_2i), .float .f32 (nv .f32 r_f1_3 t_f1_3i), .float .f32 (nv .f32 r_f1_4 t_f1_4i), .int .i64 r_k2, .float .f32 (nv .f32 r_f2_0 t_f2_0i), .float .f32 (nv .f32 r_f2_1 t_f2_1i), .float .f32 (nv .f32 r_f2_2 t_f2_2i), .float .f32 (nv .f32 r_f2_3 t_f2_3i), .float .f32 (nv .f32 r_f2_4 t_f2_4i), .float .f32 (nv .f32 r_x1 t_x1i), .float .f32 (nv .f32 r_x2 t_x2i)] 31) := (wr8.block _ (ltb ki) (by
    simp only [List.mem_append, mem_gl]
    have s1 := S1.out
    have s2 := S2.out
    have s3 := S3.out
    have s4 := S4.out
    have s5 := S5.out
    have s6 := S6.out
    have s7 := S7.out
    have s8 := S8.out
    have q1s_ := Q1s.out
    have q2s_ := Q2s.out
    have n0s_ := N0s.out
    have qx_ := Qx.out
    have q1i_ := Q1i.out
    have q2i_ := Q2i.out
    have n0i_ := N0i.out
    omega)).trans ki
  have HB8 : Hid (Below w.heap.size w w8) := Below.trans (HB7.out) (wr8.below (HB7.out).size (fun g hg => by
    simp only [List.mem_append, mem_gl] at hg
    have s1 := S1.out
    have s2 := S2.out
    have s3 := S3.out
    have s4 := S4.out
    have s5 := S5.out
    have s6 := S6.out
    have s7 := S7.out
    have s8 := S8.out
    have q1s_ := Q1s.out
    have q2s_ := Q2s.out
    have n0s_ := N0s.out
    have qx_ := Qx.out
    have q1i_ := Q1i.out
    have q2i_ := Q2i.out
    have n0i_ := N0i.out
    omega))
  have O1s := Lib.hid (OF.wr0 O1s.out wr8 (fun hpos => by
    simp only [List.mem_append, mem_gl]
    have s1 := S1.out
    have s2 := S2.out
    have s3 := S3.out
    have s4 := S4.out
    have s5 := S5.out
    have s6 := S6.out
    have s7 := S7.out
    have s8 := S8.out
    have q1s_ := Q1s.out
    have q2s_ := Q2s.out
    have n0s_ := N0s.out
    have qx_ := Qx.out
    have q1i_ := Q1i.out
    have q2i_ := Q2i.out
    have n0i_ := N0i.out
    omega))
  have O2s := Lib.hid (OF.wr0 O2s.out wr8 (fun hpos => by
    simp only [List.mem_append, mem_gl]
    have s1 := S1.out
    have s2 := S2.out
    have s3 := S3.out
    have s4 := S4.out
    have s5 := S5.out
    have s6 := S6.out
    have s7 := S7.out
    have s8 := S8.out
    have q1s_ := Q1s.out
    have q2s_ := Q2s.out
    have n0s_ := N0s.out
    have qx_ := Qx.out
    have q1i_ := Q1i.out
    have q2i_ := Q2i.out
    have n0i_ := N0i.out
    omega))
  have O1i := Lib.hid (OF.wr0 O1i.out wr8 (fun hpos => by
    simp only [List.mem_append, mem_gl]
    have s1 := S1.out
    have s2 := S2.out
    have s3 := S3.out
    have s4 := S4.out
    have s5 := S5.out
    have s6 := S6.out
    have s7 := S7.out
    have s8 := S8.out
    have q1s_ := Q1s.out
    have q2s_ := Q2s.out
    have n0s_ := N0s.out
    have qx_ := Qx.out
    have q1i_ := Q1i.out
    have q2i_ := Q2i.out
    have n0i_ := N0i.out
    omega))
  have O2i := Lib.hid (OF.wr0 O2i.out wr8 (fun hpos => by
    simp only [List.mem_append, mem_gl]
    have s1 := S1.out
    have s2 := S2.out
    have s3 := S3.out
    have s4 := S4.out
    have s5 := S5.out
    have s6 := S6.out
    have s7 := S7.out
    have s8 := S8.out
    have q1s_ := Q1s.out
    have q2s_ := Q2s.out
    have n0s_ := N0s.out
    have qx_ := Qx.out
    have q1i_ := Q1i.out
    have q2i_ := Q2i.out
    have n0i_ := N0i.out
    omega))
  clear kx
  have kx := kxn
  clear kxn
  clear yx
  have yx := ltb kx
  clear ks
  have ks := ksn
  clear ksn
  clear ys
  have ys := ltb ks
  clear kz
  have kz := kzn
  clear kzn
  clear yz
  have yz := ltb kz
  clear ki
  have ki := kin
  clear kin
  clear yi
  have yi := ltb ki
  clear wr8
  have O1x := Lib.hid o1x
  clear o1x lt1
  have O2x := Lib.hid o2x
  clear o2x lt2
  clear nn12
  clear O1x
  clear O2x
  go_wp2_with fail
  refine (c_eqJet' _ _ _ _ _ _ _ _ _ _ _ _ _ _ _ _ _ _ _ _ _ _ _ _ _ _ _ _ _ _ _ _ _ _ _ _ _ _ _ _ _ _ _ O1i.out.fs O1s.out.fs (Alk.refl _) O2i.out.fs O2s.out.fs (Alk.refl _) ⟨up_nv2 _ _ _, up_nv2 _ _ _, up_nv2 _ _ _, up_nv2 _ _ _, up_nv2 _ _ _⟩ ⟨up_nv2 _ _ _, up_nv2 _ _ _, up_nv2 _ _ _, up_nv2 _ _ _, up_nv2 _ _ _⟩ (up_nv2 _ _ _) (up_nv2 _ _ _)).mono ?_
  rintro e w9 ⟨rfl, hb9⟩
  have S9 : Hid (w8.heap.size + 0 ≤ w9.heap.size) := by show _ ≤ _; have := hb9.size; simpa using this
  have kxn : blkAt w9 w.heap.size = some (.cells #[.slice a1 n1 c1, .int .i64 i1, .slice a2 n2 c2, .int .i64 i2, .int .i64 k1, .float .f32 f1_0, .float .f32 f1_1, .float .f32 f1_2, .float .f32 f1_3, .float .f32 f1_4, .int .i64 k2, .float .f32 f2_0, .float .f32 f2_1, .float .f32 f2_2, .float .f32 f2_3, .float .f32 f2_4, .float .f32 x1, .float .f32 x2] 48) := (hb9.block _ (ltb kx)).trans kx
  have ksn : blkAt w9 w3.heap.size = some (.cells #[.slice a1s r_n1 c1s, .int .i64 r_i1, .slice a2s r_n2 c2s, .int .i64 r_i2, .int .i64 r_k1, .float .f32 (nv .f32 r_f1_0 t_f1_0s), .float .f32 (nv .f32 r_f1_1 t_f1_1s), .float .f32 (nv .f32 r_f1_2 t_f1_2s), .float .f32 (nv .f32 r_f1_3 t_f1_3s), .float .f32 (nv .f32 r_f1_4 t_f1_4s), .int .i64 r_k2, .float .f32 (nv .f32 r_f2_0 t_f2_0s), .float .f32 (nv .f32 r_f2_1 t_f2_1s), .float .f32 (nv .f32 r_f2_2 t_f2_2s), .float .f32 (nv .f32 r_f2_3 t_f2_3s), .float .f32 (nv .f32 r_f2_4 t_f2_4s), .float .f32 (nv .f32 r_x1 t_x1s), .float .f32 (nv .f32 r_x2 t_x2s)] 31) := (hb9.block _ (ltb ks)).trans ks
  have kzn : blkAt w9 w4.heap.size = some (.cells #[.slice (some ⟨g1x, 0, none⟩) n1 n1, .int .i64 i1, .slice (some ⟨g2x, 0, none⟩) n2 n2, .int .i64 i2, .int .i64 k1, .float .f32 f1_0, .float .f32 f1_1, .float .f32 f1_2, .float .f32 f1_3, .float .f32 f1_4, .int .i64 k2, .float .f32 f2_0, .float .f32 f2_1, .float .f32 f2_2, .float .f32 f2_3, .float .f32 f2_4, .float .f32 x1, .float .f32 x2] 31) := (hb9.block _ (ltb kz)).trans kz
  have kin : blkAt w9 w5.heap.size = some (.cells #[.slice a1i r_n1 c1i, .int .i64 r_i1, .slice a2i r_n2 c2i, .int .i64 r_i2, .int .i64 r_k1, .float .f32 (nv .f32 r_f1_0 t_f1_0i), .float .f32 (nv .f32 r_f1_1 t_f1_1i), .float .f32 (nv .f32 r_f1_2 t_f1_2i), .float .f32 (nv .f32 r_f1_3 t_f1_3i), .float .f32 (nv .f32 r_f1_4 t_f1_4i), .int .i64 r_k2, .float .f32 (nv .f32 r_f2_0 t_f2_0i), .float .f32 (nv .f32 r_f2_1 t_f2_1i), .float .f32 (nv .f32 r_f2_2 t_f2_2i), .float .f32 (nv .f32 r_f2_3 t_f2_3i), .float .f32 (nv .f32 r_f2_4 t_f2_4i), .float .f32 (nv .f32 r_x1 t_x1i), .float .f32 (nv .f32 r_x2 t_x2i)] 31) := (hb9.block _ (ltb ki)).trans ki
  have HB9 := Lib.hid (bUp (HB8.out) hb9)
  have O1s := Lib.hid (O1s.out.below hb9 (Nat.le_refl _))
  have O2s := Lib.hid (O2s.out.below hb9 (Nat.le_refl _))
  have O1i := Lib.hid (O1i.out.below hb9 (Nat.le_refl _))
  have O2i := Lib.hid (O2i.out.below hb9 (Nat.le_refl _))
  clear kx
  have kx := kxn
  clear kxn
  clear yx
  have yx := ltb kx
  clear ks
  have ks := ksn
  clear ksn
  clear ys
  have ys := ltb ks
  clear kz
  have kz := kzn
  clear kzn
  clear yz
  have yz := ltb kz
  clear ki
  have ki := kin
  clear kin
  clear yi
  have yi := ltb ki
  clear hb9
  go_wp2_with fail
  have lt1 : 0 < r_n1 → g1i < w9.heap.size := fun hpos => by
    have s1 := S1.out
    have s2 := S2.out
    have s3 := S3.out
    have s4 := S4.out
    have s5 := S5.out
    have s6 := S6.out
    have s7 := S7.out
    have s8 := S8.out
    have s9 := S9.out
    have q1s_ := Q1s.out
    have q2s_ := Q2s.out
    have n0s_ := N0s.out
    have q1i_ := Q1i.out
    have q2i_ := Q2i.out
    have n0i_ := N0i.out
    omega
  have lt2 : 0 < r_n2 → g2i < w9.heap.size := fun hpos => by
    have s1 := S1.out
    have s2 := S2.out
    have s3 := S3.out
    have s4 := S4.out
    have s5 := S5.out
    have s6 := S6.out
    have s7 := S7.out
    have s8 := S8.out
    have s9 := S9.out
    have q1s_ := Q1s.out
    have q2s_ := Q2s.out
    have n0s_ := N0s.out
    have q1i_ := Q1i.out
    have q2i_ := Q2i.out
    have n0i_ := N0i.out
    omega
  have nn12 : g1i ≠ g2i := by
    have s1 := S1.out
    have s2 := S2.out
    have s3 := S3.out
    have s4 := S4.out
    have s5 := S5.out
    have s6 := S6.out
    have s7 := S7.out
    have s8 := S8.out
    have s9 := S9.out
    have q1s_ := Q1s.out
    have q2s_ := Q2s.out
    have n0s_ := N0s.out
    have q1i_ := Q1i.out
    have q2i_ := Q2i.out
    have n0i_ := N0i.out
    omega
  refine (c_markJet' g1i g2i _ _ _ r_xs1 _ _ _ _ r_xs2 _ _ _ _ _ _ _ _ _ _ _ _ _ _ _ 1 _ O1i.out lt1 O2i.out lt2 nn12 (by omega) (by omega)).mono ?_
  rintro e w10 ⟨rfl, wr10, o1i, o2i⟩
  have S10 : Hid (w9.heap.size + 0 ≤ w10.heap.size) := by show _ ≤ _; have := wr10.size; simpa using this
  have kxn : blkAt w10 w.heap.size = some (.cells #[.slice a1 n1 c1, .int .i64 i1, .slice a2 n2 c2, .int .i64 i2, .int .i64 k1, .float .f32 f1_0, .float .f32 f1_1, .float .f32 f1_2, .float .f32 f1_3, .float .f32 f1_4, .int .i64 k2, .float .f32 f2_0, .float .f32 f2_1, .float .f32 f2_2, .float .f32 f2_3, .float .f32 f2_4, .float .f32 x1, .float .f32 x2] 48) := (wr10.block _ (ltb kx) (by
    simp only [List.mem_append, mem_gl]
    have s1 := S1.out
    have s2 := S2.out
    have s3 := S3.out
    have s4 := S4.out
    have s5 := S5.out
    have s6 := S6.out
    have s7 := S7.out
    have s8 := S8.out
    have s9 := S9.out
    have s10 := S10.out
    have q1s_ := Q1s.out
    have q2s_ := Q2s.out
    have n0s_ := N0s.out
    have q1i_ := Q1i.out
    have q2i_ := Q2i.out
    have n0i_ := N0i.out
    omega)).trans kx
  have ksn : blkAt w10 w3.heap.size = some (.cells #[.slice a1s r_n1 c1s, .int .i64 r_i1, .slice a2s r_n2 c2s, .int .i64 r_i2, .int .i64 r_k1, .float .f32 (nv .f32 r_f1_0 t_f1_0s), .float .f32 (nv .f32 r_f1_1 t_f1_1s), .float .f32 (nv .f32 r_f1_2 t_f1_2s), .float .f32 (nv .f32 r_f1_3 t_f1_3s), .float .f32 (nv .f32 r_f1_4 t_f1_4s), .int .i64 r_k2, .float .f32 (nv .f32 r_f2_0 t_f2_0s), .float .f32 (nv .f32 r_f2_1 t_f2_1s), .float .f32 (nv .f32 r_f2_2 t_f2_2s), .float .f32 (nv .f32 r_f2_3 t_f2_3s), .float .f32 (nv .f32 r_f2_4 t_f2_4s), .float .f32 (nv .f32 r_x1 t_x1s), .float .f32 (nv .f32 r_x2 t_x2s)] 31) := (wr10.block _ (ltb ks) (by
    simp only [List.mem_append, mem_gl]
    have s1 := S1.out
    have s2 := S2.out
    have s3 := S3.out
    have s4 := S4.out
    have s5 := S5.out
    have s6 := S6.out
    have s7 := S7.out
    have s8 := S8.out
    have s9 := S9.out
    have s10 := S10.out
    have q1s_ := Q1s.out
    have q2s_ := Q2s.out
    have n0s_ := N0s.out
    have q1i_ := Q1i.out
    have q2i_ := Q2i.out
    have n0i_ := N0i.out
    omega)).trans ks
  have kzn : blkAt w10 w4.heap.size = some (.cells #[.slice (some ⟨g1x, 0, none⟩) n1 n1, .int .i64 i1, .slice (some ⟨g2x, 0, none⟩) n2 n2, .int .i64 i2, .int .i64 k1, .float .f32 f1_0, .float .f32 f1_1, .float .f32 f1_2, .float .f32 f1_3, .float .f32 f1_4, .int .i64 k2, .float .f32 f2_0, .float .f32 f2_1, .float .f32 f2_2, .float .f32 f2_3, .float .f32 f2_4, .float .f32 x1, .float .f32 x2] 31) := (wr10.block _ (ltb kz) (by
    simp only [List.mem_append, mem_gl]
    have s1 := S1.out
    have s2 := S2.out
    have s3 := S3.out
    have s4 := S4.out
    have s5 := S5.out
    have s6 := S6.out
    have s7 := S7.out
    have s8 := S8.out
    have s9 := S9.out
    have s10 := S10.out
    have q1s_ := Q1s.out
    have q2s_ := Q2s.out
    have n0s_ := N0s.out
    have q1i_ := Q1i.out
    have q2i_ := Q2i.out
    have n0i_ := N0i.out
    omega)).trans kz
  have kin : blkAt w10 w5.heap.size = some (.cells #[.slice a1i r_n1 c1i, .int .i64 r_i1, .slice a2i r_n2 c2i, .int .i64 r_i2, .int .i64 r_k1, .float .f32 (nv .f32 r_f1_0 t_f1_0i), .float .f32 (nv .f32 r_f1_1 t_f1_1i), .float .f32 (nv .f32 r_f1_2 t_f1_2i), .float .f32 (nv .f32 r_f1_3 t_f1_3i), .float .f32 (nv .f32 r_f1_4 t_f1_4i), .int .i64 r_k2, .float .f32 (nv .f32 r_f2_0 t_f2_0i), .float .f32 (nv .f32 r_f2_1 t_f2_1i), .float .f32 (nv .f32 r_f2_2 t_f2_2i), .float .f32 (nv .f32 r_f2_3 t_f2_3i), .float .f32 (nv .f32 r_f2_4 t_f2_4i), .float .f32 (nv .f32 r_x1 t_x1i), .float .f32 (nv .f32 r_x2 t_x2i)] 31) := (wr10.block _ (ltb ki) (by
    simp only [List.mem_append, mem_gl]
    have s1 := S1.out
    have s2 := S2.out
    have s3 := S3.out
    have s4 := S4.out
    have s5 := S5.out
    have s6 := S6.out
    have s7 := S7.out
    have s8 := S8.out
    have s9 := S9.out
    have s10 := S10.out
    have q1s_ := Q1s.out
    have q2s_ := Q2s.out
    have n0s_ := N0s.out
    have q1i_ := Q1i.out
    have q2i_ := Q2i.out
    have n0i_ := N0i.out
    omega)).trans ki
  have HB10 : Hid (Below w.heap.size w w10) := Below.trans (HB9.out) (wr10.below (HB9.out).size (fun g hg => by
    simp only [List.mem_append, mem_gl] at hg
    have s1 := S1.out
    have s2 := S2.out
    have s3 := S3.out
    have s4 := S4.out
    have s5 := S5.out
    have s6 := S6.out
    have s7 := S7.out
    have s8 := S8.out
    have s9 := S9.out
    have s10 := S10.out
    have q1s_ := Q1s.out
    have q2s_ := Q2s.out
    have n0s_ := N0s.out
    have q1i_ := Q1i.out
    have q2i_ := Q2i.out
    have n0i_ := N0i.out
    omega))
  have O1s := Lib.hid (OF.wr0 O1s.out wr10 (fun hpos => by
    simp only [List.mem_append, mem_gl]
    have s1 := S1.out
    have s2 := S2.out
    have s3 := S3.out
    have s4 := S4.out
    have s5 := S5.out
    have s6 := S6.out
    have s7 := S7.out
    have s8 := S8.out
    have s9 := S9.out
    have s10 := S10.out
    have q1s_ := Q1s.out
    have q2s_ := Q2s.out
    have n0s_ := N0s.out
    have q1i_ := Q1i.out
    have q2i_ := Q2i.out
    have n0i_ := N0i.out
    omega))
  have O2s := Lib.hid (OF.wr0 O2s.out wr10 (fun hpos => by
    simp only [List.mem_append, mem_gl]
    have s1 := S1.out
    have s2 := S2.out
    have s3 := S3.out
    have s4 := S4.out
    have s5 := S5.out
    have s6 := S6.out
    have s7 := S7.out
    have s8 := S8.out
    have s9 := S9.out
    have s10 := S10.out
    have q1s_ := Q1s.out
    have q2s_ := Q2s.out
    have n0s_ := N0s.out
    have q1i_ := Q1i.out
    have q2i_ := Q2i.out
    have n0i_ := N0i.out
    omega))
  clear kx
  have kx := kxn
  clear kxn
  clear yx
  have yx := ltb kx
  clear ks
  have ks := ksn
  clear ksn
  clear ys
  have ys := ltb ks
  clear kz
  have kz := kzn
  clear kzn
  clear yz
  have yz := ltb kz
  clear ki
  have ki := kin
  clear kin
  clear yi
  have yi := ltb ki
  clear wr10
  have O1i := Lib.hid o1i
  clear o1i lt1
  have O2i := Lib.hid o2i
  clear o2i lt2
  clear nn12
  go_wp2_with fail
  refine (c_heldJet' _ _ _ _ _ _ _ _ _ _ _ _ _ _ _ _ _ _ _ _ _ _ 1 _ O1i.out.fs O2i.out.fs (by omega) (by omega)).mono ?_
  rintro e w11 ⟨rfl, hb11⟩
  have S11 : Hid (w10.heap.size + 0 ≤ w11.heap.size) := by show _ ≤ _; have := hb11.size; simpa using this
  have kxn : blkAt w11 w.heap.size = some (.cells #[.slice a1 n1 c1, .int .i64 i1, .slice a2 n2 c2, .int .i64 i2, .int .i64 k1, .float .f32 f1_0, .float .f32 f1_1, .float .f32 f1_2, .float .f32 f1_3, .float .f32 f1_4, .int .i64 k2, .float .f32 f2_0, .float .f32 f2_1, .float .f32 f2_2, .float .f32 f2_3, .float .f32 f2_4, .float .f32 x1, .float .f32 x2] 48) := (hb11.block _ (ltb kx)).trans kx
  have ksn : blkAt w11 w3.heap.size = some (.cells #[.slice a1s r_n1 c1s, .int .i64 r_i1, .slice a2s r_n2 c2s, .int .i64 r_i2, .int .i64 r_k1, .float .f32 (nv .f32 r_f1_0 t_f1_0s), .float .f32 (nv .f32 r_f1_1 t_f1_1s), .float .f32 (nv .f32 r_f1_2 t_f1_2s), .float .f32 (nv .f32 r_f1_3 t_f1_3s), .float .f32 (nv .f32 r_f1_4 t_f1_4s), .int .i64 r_k2, .float .f32 (nv .f32 r_f2_0 t_f2_0s), .float .f32 (nv .f32 r_f2_1 t_f2_1s), .float .f32 (nv .f32 r_f2_2 t_f2_2s), .float .f32 (nv .f32 r_f2_3 t_f2_3s), .float .f32 (nv .f32 r_f2_4 t_f2_4s), .float .f32 (nv .f32 r_x1 t_x1s), .float .f32 (nv .f32 r_x2 t_x2s)] 31) := (hb11.block _ (ltb ks)).trans ks
  have kzn : blkAt w11 w4.heap.size = some (.cells #[.slice (some ⟨g1x, 0, none⟩) n1 n1, .int .i64 i1, .slice (some ⟨g2x, 0, none⟩) n2 n2, .int .i64 i2, .int .i64 k1, .float .f32 f1_0, .float .f32 f1_1, .float .f32 f1_2, .float .f32 f1_3, .float .f32 f1_4, .int .i64 k2, .float .f32 f2_0, .float .f32 f2_1, .float .f32 f2_2, .float .f32 f2_3, .float .f32 f2_4, .float .f32 x1, .float .f32 x2] 31) := (hb11.block _ (ltb kz)).trans kz
  have kin : blkAt w11 w5.heap.size = some (.cells #[.slice a1i r_n1 c1i, .int .i64 r_i1, .slice a2i r_n2 c2i, .int .i64 r_i2, .int .i64 r_k1, .float .f32 (nv .f32 r_f1_0 t_f1_0i), .float .f32 (nv .f32 r_f1_1 t_f1_1i), .float .f32 (nv .f32 r_f1_2 t_f1_2i), .float .f32 (nv .f32 r_f1_3 t_f1_3i), .float .f32 (nv .f32 r_f1_4 t_f1_4i), .int .i64 r_k2, .float .f32 (nv .f32 r_f2_0 t_f2_0i), .float .f32 (nv .f32 r_f2_1 t_f2_1i), .float .f32 (nv .f32 r_f2_2 t_f2_2i), .float .f32 (nv .f32 r_f2_3 t_f2_3i), .float .f32 (nv .f32 r_f2_4 t_f2_4i), .float .f32 (nv .f32 r_x1 t_x1i), .float .f32 (nv .f32 r_x2 t_x2i)] 31) := (hb11.block _ (ltb ki)).trans ki
  have HB11 := Lib.hid (bUp (HB10.out) hb11)
  have O1s := Lib.hid (O1s.out.below hb11 (Nat.le_refl _))
  have O2s := Lib.hid (O2s.out.below hb11 (Nat.le_refl _))
  have O1i := Lib.hid (O1i.out.below hb11 (Nat.le_refl _))
  have O2i := Lib.hid (O2i.out.below hb11 (Nat.le_refl _))
  clear kx
  have kx := kxn
  clear kxn
  clear yx
  have yx := ltb kx
  clear ks
  have ks := ksn
  clear ksn
  clear ys
  have ys := ltb ks
  clear kz
  have kz := kzn
  clear kzn
  clear yz
  have yz := ltb kz
  clear ki
  have ki := kin
  clear kin
  clear yi
  have yi := ltb ki
  clear hb11
  go_wp2_with fail
  refine (c_toJet' a1 n1 c1 xs1 i1 a2 n2 c2 xs2 i2 k1 f1_0 f1_1 f1_2 f1_3 f1_4 k2 f2_0 f2_1 f2_2 f2_3 f2_4 x1 x2 _ (FS.below (B := w.heap.size) H1.out (HB11.out) (Nat.le_refl _)) (by omega) (FS.below (B := w.heap.size) H2.out (HB11.out) (Nat.le_refl _)) (by omega)).mono ?_
  rintro e w12 ⟨g1y, g2y, rfl, hb12, l0, l1, l2, o1y, o2y⟩
  have Qy : Hid (w11.heap.size + 0 ≤ g1y ∧ g1y < g2y ∧ g2y < w12.heap.size) := ⟨by simpa using l0, l1, l2⟩
  have S12 : Hid (w11.heap.size + 0 ≤ w12.heap.size) := by show _ ≤ _; have := hb12.size; simpa using this
  have kxn : blkAt w12 w.heap.size = some (.cells #[.slice a1 n1 c1, .int .i64 i1, .slice a2 n2 c2, .int .i64 i2, .int .i64 k1, .float .f32 f1_0, .float .f32 f1_1, .float .f32 f1_2, .float .f32 f1_3, .float .f32 f1_4, .int .i64 k2, .float .f32 f2_0, .float .f32 f2_1, .float .f32 f2_2, .float .f32 f2_3, .float .f32 f2_4, .float .f32 x1, .float .f32 x2] 48) := (hb12.block _ (ltb kx)).trans kx
  have ksn : blkAt w12 w3.heap.size = some (.cells #[.slice a1s r_n1 c1s, .int .i64 r_i1, .slice a2s r_n2 c2s, .int .i64 r_i2, .int .i64 r_k1, .float .f32 (nv .f32 r_f1_0 t_f1_0s), .float .f32 (nv .f32 r_f1_1 t_f1_1s), .float .f32 (nv .f32 r_f1_2 t_f1_2s), .float .f32 (nv .f32 r_f1_3 t_f1_3s), .float .f32 (nv .f32 r_f1_4 t_f1_4s), .int .i64 r_k2, .float .f32 (nv .f32 r_f2_0 t_f2_0s), .float .f32 (nv .f32 r_f2_1 t_f2_1s), .float .f32 (nv .f32 r_f2_2 t_f2_2s), .float .f32 (nv .f32 r_f2_3 t_f2_3s), .float .f32 (nv .f32 r_f2_4 t_f2_4s), .float .f32 (nv .f32 r_x1 t_x1s), .float .f32 (nv .f32 r_x2 t_x2s)] 31) := (hb12.block _ (ltb ks)).trans ks
  have kzn : blkAt w12 w4.heap.size = some (.cells #[.slice (some ⟨g1x, 0, none⟩) n1 n1, .int .i64 i1, .slice (some ⟨g2x, 0, none⟩) n2 n2, .int .i64 i2, .int .i64 k1, .float .f32 f1_0, .float .f32 f1_1, .float .f32 f1_2, .float .f32 f1_3, .float .f32 f1_4, .int .i64 k2, .float .f32 f2_0, .float .f32 f2_1, .float .f32 f2_2, .float .f32 f2_3, .float .f32 f2_4, .float .f32 x1, .float .f32 x2] 31) := (hb12.block _ (ltb kz)).trans kz
  have kin : blkAt w12 w5.heap.size = some (.cells #[.slice a1i r_n1 c1i, .int .i64 r_i1, .slice a2i r_n2 c2i, .int .i64 r_i2, .int .i64 r_k1, .float .f32 (nv .f32 r_f1_0 t_f1_0i), .float .f32 (nv .f32 r_f1_1 t_f1_1i), .float .f32 (nv .f32 r_f1_2 t_f1_2i), .float .f32 (nv .f32 r_f1_3 t_f1_3i), .float .f32 (nv .f32 r_f1_4 t_f1_4i), .int .i64 r_k2, .float .f32 (nv .f32 r_f2_0 t_f2_0i), .float .f32 (nv .f32 r_f2_1 t_f2_1i), .float .f32 (nv .f32 r_f2_2 t_f2_2i), .float .f32 (nv .f32 r_f2_3 t_f2_3i), .float .f32 (nv .f32 r_f2_4 t_f2_4i), .float .f32 (nv .f32 r_x1 t_x1i), .float .f32 (nv .f32 r_x2 t_x2i)] 31) := (hb12.block _ (ltb ki)).trans ki
  have HB12 := Lib.hid (bUp (HB11.out) hb12)
  have O1s := Lib.hid (O1s.out.below hb12 (Nat.le_refl _))
  have O2s := Lib.hid (O2s.out.below hb12 (Nat.le_refl _))
  have O1i := Lib.hid (O1i.out.below hb12 (Nat.le_refl _))
  have O2i := Lib.hid (O2i.out.below hb12 (Nat.le_refl _))
  clear kx
  have kx := kxn
  clear kxn
  clear yx
  have yx := ltb kx
  clear ks
  have ks := ksn
  clear ksn
  clear ys
  have ys := ltb ks
  clear kz
  have kz := kzn
  clear kzn
  clear yz
  have yz := ltb kz
  clear ki
  have ki := kin
  clear kin
  clear yi
  have yi := ltb ki
  clear hb12
  have O1y := Lib.hid o1y
  clear o1y
  have O2y := Lib.hid o2y
  clear o2y
  clear l0 l1 l2
  go_wp2_with fail
  refine (HI.out _ _ _ _ _ O1y.out.fs O2y.out.fs).mono ?_
  rintro e w13 ⟨a1h, a2h, c1h, c2h, g1h, g2h, t_f1_0h, t_f1_1h, t_f1_2h, t_f1_3h, t_f1_4h, t_f2_0h, t_f2_1h, t_f2_2h, t_f2_3h, t_f2_4h, t_x1h, t_x2h, rfl, hb13, q1, q2, ne12h, o1h, o2h⟩
  have Q1h : Hid (0 < r_n1 → w12.heap.size + 0 ≤ g1h ∧ g1h < w13.heap.size) := fun h => ⟨by have := (q1 h).1; simpa using this, (q1 h).2⟩
  have Q2h : Hid (0 < r_n2 → w12.heap.size + 0 ≤ g2h ∧ g2h < w13.heap.size) := fun h => ⟨by have := (q2 h).1; simpa using this, (q2 h).2⟩
  have N0h := Lib.hid ne12h
  clear ne12h
  have S13 : Hid (w12.heap.size + 0 ≤ w13.heap.size) := by show _ ≤ _; have := hb13.size; simpa using this
  have kxn : blkAt w13 w.heap.size = some (.cells #[.slice a1 n1 c1, .int .i64 i1, .slice a2 n2 c2, .int .i64 i2, .int .i64 k1, .float .f32 f1_0, .float .f32 f1_1, .float .f32 f1_2, .float .f32 f1_3, .float .f32 f1_4, .int .i64 k2, .float .f32 f2_0, .float .f32 f2_1, .float .f32 f2_2, .float .f32 f2_3, .float .f32 f2_4, .float .f32 x1, .float .f32 x2] 48) := (hb13.block _ (ltb kx)).trans kx
  have ksn : blkAt w13 w3.heap.size = some (.cells #[.slice a1s r_n1 c1s, .int .i64 r_i1, .slice a2s r_n2 c2s, .int .i64 r_i2, .int .i64 r_k1, .float .f32 (nv .f32 r_f1_0 t_f1_0s), .float .f32 (nv .f32 r_f1_1 t_f1_1s), .float .f32 (nv .f32 r_f1_2 t_f1_2s), .float .f32 (nv .f32 r_f1_3 t_f1_3s), .float .f32 (nv .f32 r_f1_4 t_f1_4s), .int .i64 r_k2, .float .f32 (nv .f32 r_f2_0 t_f2_0s), .float .f32 (nv .f32 r_f2_1 t_f2_1s), .float .f32 (nv .f32 r_f2_2 t_f2_2s), .float .f32 (nv .f32 r_f2_3 t_f2_3s), .float .f32 (nv .f32 r_f2_4 t_f2_4s), .float .f32 (nv .f32 r_x1 t_x1s), .float .f32 (nv .f32 r_x2 t_x2s)] 31) := (hb13.block _ (ltb ks)).trans ks
  have kzn : blkAt w13 w4.heap.size = some (.cells #[.slice (some ⟨g1x, 0, none⟩) n1 n1, .int .i64 i1, .slice (some ⟨g2x, 0, none⟩) n2 n2, .int .i64 i2, .int .i64 k1, .float .f32 f1_0, .float .f32 f1_1, .float .f32 f1_2, .float .f32 f1_3, .float .f32 f1_4, .int .i64 k2, .float .f32 f2_0, .float .f32 f2_1, .float .f32 f2_2, .float .f32 f2_3, .float .f32 f2_4, .float .f32 x1, .float .f32 x2] 31) := (hb13.block _ (ltb kz)).trans kz
  have kin : blkAt w13 w5.heap.size = some (.cells #[.slice a1i r_n1 c1i, .int .i64 r_i1, .slice a2i r_n2 c2i, .int .i64 r_i2, .int .i64 r_k1, .float .f32 (nv .f32 r_f1_0 t_f1_0i), .float .f32 (nv .f32 r_f1_1 t_f1_1i), .float .f32 (nv .f32 r_f1_2 t_f1_2i), .float .f32 (nv .f32 r_f1_3 t_f1_3i), .float .f32 (nv .f32 r_f1_4 t_f1_4i), .int .i64 r_k2, .float .f32 (nv .f32 r_f2_0 t_f2_0i), .float .f32 (nv .f32 r_f2_1 t_f2_1i), .float .f32 (nv .f32 r_f2_2 t_f2_2i), .float .f32 (nv .f32 r_f2_3 t_f2_3i), .float .f32 (nv .f32 r_f2_4 t_f2_4i), .float .f32 (nv .f32 r_x1 t_x1i), .float .f32 (nv .f32 r_x2 t_x2i)] 31) := (hb13.block _ (ltb ki)).trans ki
  have HB13 := Lib.hid (bUp (HB12.out) hb13)
  have O1s := Lib.hid (O1s.out.below hb13 (Nat.le_refl _))
  have O2s := Lib.hid (O2s.out.below hb13 (Nat.le_refl _))
  have O1i := Lib.hid (O1i.out.below hb13 (Nat.le_refl _))
  have O2i := Lib.hid (O2i.out.below hb13 (Nat.le_refl _))
  have O1y := Lib.hid (O1y.out.below hb13 (Nat.le_refl _))
  have O2y := Lib.hid (O2y.out.below hb13 (Nat.le_refl _))
  clear kx
  have kx := kxn
  clear kxn
  clear yx
  have yx := ltb kx
  clear ks
  have ks := ksn
  clear ksn
  clear ys
  have ys := ltb ks
  clear kz
  have kz := kzn
  clear kzn
  clear yz
  have yz := ltb kz
  clear ki
  have ki := kin
  clear kin
  clear yi
  have yi := ltb ki
  clear hb13
  have O1h := Lib.hid o1h
  clear o1h q1
  have O2h := Lib.hid o2h
  clear o2h q2
  clear O1y
  clear O2y
  have G13 : Below w13.heap.size w13 (w13.alloc (.cells #[.slice a1h r_n1 c1h, .int .i64 r_i1, .slice a2h r_n2 c2h, .int .i64 r_i2, .int .i64 r_k1, .float .f32 (nv .f32 r_f1_0 t_f1_0h), .float .f32 (nv .f32 r_f1_1 t_f1_1h), .float .f32 (nv .f32 r_f1_2 t_f1_2h), .float .f32 (nv .f32 r_f1_3 t_f1_3h), .float .f32 (nv .f32 r_f1_4 t_f1_4h), .int .i64 r_k2, .float .f32 (nv .f32 r_f2_0 t_f2_0h), .float .f32 (nv .f32 r_f2_1 t_f2_1h), .float .f32 (nv .f32 r_f2_2 t_f2_2h), .float .f32 (nv .f32 r_f2_3 t_f2_3h), .float .f32 (nv .f32 r_f2_4 t_f2_4h), .float .f32 (nv .f32 r_x1 t_x1h), .float .f32 (nv .f32 r_x2 t_x2h)] 31)) := Below.alloc (Below.refl _ _) (Nat.le_refl _) _
  go_wp2_with fail
  refine (c_eqJet' _ _ _ _ _ _ _ _ _ _ _ _ _ _ _ _ _ _ _ _ _ _ _ _ _ _ _ _ _ _ _ _ _ _ _ _ _ _ _ _ _ _ _ (FS.below (B := w13.heap.size) O1h.out.fs G13 (Nat.le_refl _)) (FS.below (B := w13.heap.size) O1s.out.fs G13 (Nat.le_refl _)) (Alk.refl _) (FS.below (B := w13.heap.size) O2h.out.fs G13 (Nat.le_refl _)) (FS.below (B := w13.heap.size) O2s.out.fs G13 (Nat.le_refl _)) (Alk.refl _) ⟨up_nv2 _ _ _, up_nv2 _ _ _, up_nv2 _ _ _, up_nv2 _ _ _, up_nv2 _ _ _⟩ ⟨up_nv2 _ _ _, up_nv2 _ _ _, up_nv2 _ _ _, up_nv2 _ _ _, up_nv2 _ _ _⟩ (up_nv2 _ _ _) (up_nv2 _ _ _)).mono ?_
  rintro e w14 ⟨rfl, hb14⟩
  have S14 : Hid (w13.heap.size + 1 ≤ w14.heap.size) := by show _ ≤ _; have := hb14.size; simpa using this
  have kxn : blkAt w14 w.heap.size = some (.cells #[.slice a1 n1 c1, .int .i64 i1, .slice a2 n2 c2, .int .i64 i2, .int .i64 k1, .float .f32 f1_0, .float .f32 f1_1, .float .f32 f1_2, .float .f32 f1_3, .float .f32 f1_4, .int .i64 k2, .float .f32 f2_0, .float .f32 f2_1, .float .f32 f2_2, .float .f32 f2_3, .float .f32 f2_4, .float .f32 x1, .float .f32 x2] 48) := (hb14.block _ (ltb ((blk_alloc_ne w13 (.cells #[.slice a1h r_n1 c1h, .int .i64 r_i1, .slice a2h r_n2 c2h, .int .i64 r_i2, .int .i64 r_k1, .float .f32 (nv .f32 r_f1_0 t_f1_0h), .float .f32 (nv .f32 r_f1_1 t_f1_1h), .float .f32 (nv .f32 r_f1_2 t_f1_2h), .float .f32 (nv .f32 r_f1_3 t_f1_3h), .float .f32 (nv .f32 r_f1_4 t_f1_4h), .int .i64 r_k2, .float .f32 (nv .f32 r_f2_0 t_f2_0h), .float .f32 (nv .f32 r_f2_1 t_f2_1h), .float .f32 (nv .f32 r_f2_2 t_f2_2h), .float .f32 (nv .f32 r_f2_3 t_f2_3h), .float .f32 (nv .f32 r_f2_4 t_f2_4h), .float .f32 (nv .f32 r_x1 t_x1h), .float .f32 (nv .f32 r_x2 t_x2h)] 31) _ (ltb kx)).trans kx))).trans ((blk_alloc_ne w13 (.cells #[.slice a1h r_n1 c1h, .int .i64 r_i1, .slice a2h r_n2 c2h, .int .i64 r_i2, .int .i64 r_k1, .float .f32 (nv .f32 r_f1_0 t_f1_0h), .float .f32 (nv .f32 r_f1_1 t_f1_1h), .float .f32 (nv .f32 r_f1_2 t_f1_2h), .float .f32 (nv .f32 r_f1_3 t_f1_3h), .float .f32 (nv .f32 r_f1_4 t_f1_4h), .int .i64 r_k2, .float .f32 (nv .f32 r_f2_0 t_f2_0h), .float .f32 (nv .f32 r_f2_1 t_f2_1h), .float .f32 (nv .f32 r_f2_2 t_f2_2h), .float .f32 (nv .f32 r_f2_3 t_f2_3h), .float .f32 (nv .f32 r_f2_4 t_f2_4h), .float .f32 (nv .f32 r_x1 t_x1h), .float .f32 (nv .f32 r_x2 t_x2h)] 31) _ (ltb kx)).trans kx)
  have ksn : blkAt w14 w3.heap.size = some (.cells #[.slice a1s r_n1 c1s, .int .i64 r_i1, .slice a2s r_n2 c2s, .int .i64 r_i2, .int .i64 r_k1, .float .f32 (nv .f32 r_f1_0 t_f1_0s), .float .f32 (nv .f32 r_f1_1 t_f1_1s), .float .f32 (nv .f32 r_f1_2 t_f1_2s), .float .f32 (nv .f32 r_f1_3 t_f1_3s), .float .f32 (nv .f32 r_f1_4 t_f1_4s), .int .i64 r_k2, .float .f32 (nv .f32 r_f2_0 t_f2_0s), .float .f32 (nv .f32 r_f2_1 t_f2_1s), .float .f32 (nv .f32 r_f2_2 t_f2_2s), .float .f32 (nv .f32 r_f2_3 t_f2_3s), .float .f32 (nv .f32 r_f2_4 t_f2_4s), .float .f32 (nv .f32 r_x1 t_x1s), .float .f32 (nv .f32 r_x2 t_x2s)] 31) := (hb14.block _ (ltb ((blk_alloc_ne w13 (.cells #[.slice a1h r_n1 c1h, .int .i64 r_i1, .slice a2h r_n2 c2h, .int .i64 r_i2, .int .i64 r_k1, .float .f32 (nv .f32 r_f1_0 t_f1_0h), .float .f32 (nv .f32 r_f1_1 t_f1_1h), .float .f32 (nv .f32 r_f1_2 t_f1_2h), .float .f32 (nv .f32 r_f1_3 t_f1_3h), .float .f32 (nv .f32 r_f1_4 t_f1_4h), .int .i64 r_k2, .float .f32 (nv .f32 r_f2_0 t_f2_0h), .float .f32 (nv .f32 r_f2_1 t_f2_1h), .float .f32 (nv .f32 r_f2_2 t_f2_2h), .float .f32 (nv .f32 r_f2_3 t_f2_3h), .float .f32 (nv .f32 r_f2_4 t_f2_4h), .float .f32 (nv .f32 r_x1 t_x1h), .float .f32 (nv .f32 r_x2 t_x2h)] 31) _ (ltb ks)).trans ks))).trans ((blk_alloc_ne w13 (.cells #[.slice a1h r_n1 c1h, .int .i64 r_i1, .slice a2h r_n2 c2h, .int .i64 r_i2, .int .i64 r_k1, .float .f32 (nv .f32 r_f1_0 t_f1_0h), .float .f32 (nv .f32 r_f1_1 t_f1_1h), .float .f32 (nv .f32 r_f1_2 t_f1_2h), .float .f32 (nv .f32 r_f1_3 t_f1_3h), .float .f32 (nv .f32 r_f1_4 t_f1_4h), .int .i64 r_k2, .float .f32 (nv .f32 r_f2_0 t_f2_0h), .float .f32 (nv .f32 r_f2_1 t_f2_1h), .float .f32 (nv .f32 r_f2_2 t_f2_2h), .float .f32 (nv .f32 r_f2_3 t_f2_3h), .float .f32 (nv .f32 r_f2_4 t_f2_4h), .float .f32 (nv .f32 r_x1 t_x1h), .float .f32 (nv .f32 r_x2 t_x2h)] 31) _ (ltb ks)).trans ks)
  have kzn : blkAt w14 w4.heap.size = some (.cells #[.slice (some ⟨g1x, 0, none⟩) n1 n1, .int .i64 i1, .slice (some ⟨g2x, 0, none⟩) n2 n2, .int .i64 i2, .int .i64 k1, .float .f32 f1_0, .float .f32 f1_1, .float .f32 f1_2, .float .f32 f1_3, .float .f32 f1_4, .int .i64 k2, .float .f32 f2_0, .float .f32 f2_1, .float .f32 f2_2, .float .f32 f2_3, .float .f32 f2_4, .float .f32 x1, .float .f32 x2] 31) := (hb14.block _ (ltb ((blk_alloc_ne w13 (.cells #[.slice a1h r_n1 c1h, .int .i64 r_i1, .slice a2h r_n2 c2h, .int .i64 r_i2, .int .i64 r_k1, .float .f32 (nv .f32 r_f1_0 t_f1_0h), .float .f32 (nv .f32 r_f1_1 t_f1_1h), .float .f32 (nv .f32 r_f1_2 t_f1_2h), .float .f32 (nv .f32 r_f1_3 t_f1_3h), .float .f32 (nv .f32 r_f1_4 t_f1_4h), .int .i64 r_k2, .float .f32 (nv .f32 r_f2_0 t_f2_0h), .float .f32 (nv .f32 r_f2_1 t_f2_1h), .float .f32 (nv .f32 r_f2_2 t_f2_2h), .float .f32 (nv .f32 r_f2_3 t_f2_3h), .float .f32 (nv .f32 r_f2_4 t_f2_4h), .float .f32 (nv .f32 r_x1 t_x1h), .float .f32 (nv .f32 r_x2 t_x2h)] 31) _ (ltb kz)).trans kz))).trans ((blk_alloc_ne w13 (.cells #[.slice a1h r_n1 c1h, .int .i64 r_i1, .slice a2h r_n2 c2h, .int .i64 r_i2, .int .i64 r_k1, .float .f32 (nv .f32 r_f1_0 t_f1_0h), .float .f32 (nv .f32 r_f1_1 t_f1_1h), .float .f32 (nv .f32 r_f1_2 t_f1_2h), .float .f32 (nv .f32 r_f1_3 t_f1_3h), .float .f32 (nv .f32 r_f1_4 t_f1_4h), .int .i64 r_k2, .float .f32 (nv .f32 r_f2_0 t_f2_0h), .float .f32 (nv .f32 r_f2_1 t_f2_1h), .float .f32 (nv .f32 r_f2_2 t_f2_2h), .float .f32 (nv .f32 r_f2_3 t_f2_3h), .float .f32 (nv .f32 r_f2_4 t_f2_4h), .float .f32 (nv .f32 r_x1 t_x1h), .float .f32 (nv .f32 r_x2 t_x2h)] 31) _ (ltb kz)).trans kz)
  have kin : blkAt w14 w5.heap.size = some (.cells #[.slice a1i r_n1 c1i, .int .i64 r_i1, .slice a2i r_n2 c2i, .int .i64 r_i2, .int .i64 r_k1, .float .f32 (nv .f32 r_f1_0 t_f1_0i), .float .f32 (nv .f32 r_f1_1 t_f1_1i), .float .f32 (nv .f32 r_f1_2 t_f1_2i), .float .f32 (nv .f32 r_f1_3 t_f1_3i), .float .f32 (nv .f32 r_f1_4 t_f1_4i), .int .i64 r_k2, .float .f32 (nv .f32 r_f2_0 t_f2_0i), .float .f32 (nv .f32 r_f2_1 t_f2_1i), .float .f32 (nv .f32 r_f2_2 t_f2_2i), .float .f32 (nv .f32 r_f2_3 t_f2_3i), .float .f32 (nv .f32 r_f2_4 t_f2_4i), .float .f32 (nv .f32 r_x1 t_x1i), .float .f32 (nv .f32 r_x2 t_x2i)] 31) := (hb14.block _ (ltb ((blk_alloc_ne w13 (.cells #[.slice a1h r_n1 c1h, .int .i64 r_i1, .slice a2h r_n2 c2h, .int .i64 r_i2, .int .i64 r_k1, .float .f32 (nv .f32 r_f1_0 t_f1_0h), .float .f32 (nv .f32 r_f1_1 t_f1_1h), .float .f32 (nv .f32 r_f1_2 t_f1_2h), .float .f32 (nv .f32 r_f1_3 t_f1_3h), .float .f32 (nv .f32 r_f1_4 t_f1_4h), .int .i64 r_k2, .float .f32 (nv .f32 r_f2_0 t_f2_0h), .float .f32 (nv .f32 r_f2_1 t_f2_1h), .float .f32 (nv .f32 r_f2_2 t_f2_2h), .float .f32 (nv .f32 r_f2_3 t_f2_3h), .float .f32 (nv .f32 r_f2_4 t_f2_4h), .float .f32 (nv .f32 r_x1 t_x1h), .float .f32 (nv .f32 r_x2 t_x2h)] 31) _ (ltb ki)).trans ki))).trans ((blk_alloc_ne w13 (.cells #[.slice a1h r_n1 c1h, .int .i64 r_i1, .slice a2h r_n2 c2h, .int .i64 r_i2, .int .i64 r_k1, .float .f32 (nv .f32 r_f1_0 t_f1_0h), .float .f32 (nv .f32 r_f1_1 t_f1_1h), .float .f32 (nv .f32 r_f1_2 t_f1_2h), .float .f32 (nv .f32 r_f1_3 t_f1_3h), .float .f32 (nv .f32 r_f1_4 t_f1_4h), .int .i64 r_k2, .float .f32 (nv .f32 r_f2_0 t_f2_0h), .float .f32 (nv .f32 r_f2_1 t_f2_1h), .float .f32 (nv .f32 r_f2_2 t_f2_2h), .float .f32 (nv .f32 r_f2_3 t_f2_3h), .float .f32 (nv .f32 r_f2_4 t_f2_4h), .float .f32 (nv .f32 r_x1 t_x1h), .float .f32 (nv .f32 r_x2 t_x2h)] 31) _ (ltb ki)).trans ki)
  have khn : blkAt w14 w13.heap.size = some (.cells #[.slice a1h r_n1 c1h, .int .i64 r_i1, .slice a2h r_n2 c2h, .int .i64 r_i2, .int .i64 r_k1, .float .f32 (nv .f32 r_f1_0 t_f1_0h), .float .f32 (nv .f32 r_f1_1 t_f1_1h), .float .f32 (nv .f32 r_f1_2 t_f1_2h), .float .f32 (nv .f32 r_f1_3 t_f1_3h), .float .f32 (nv .f32 r_f1_4 t_f1_4h), .int .i64 r_k2, .float .f32 (nv .f32 r_f2_0 t_f2_0h), .float .f32 (nv .f32 r_f2_1 t_f2_1h), .float .f32 (nv .f32 r_f2_2 t_f2_2h), .float .f32 (nv .f32 r_f2_3 t_f2_3h), .float .f32 (nv .f32 r_f2_4 t_f2_4h), .float .f32 (nv .f32 r_x1 t_x1h), .float .f32 (nv .f32 r_x2 t_x2h)] 31) := (hb14.block _ (ltb (blk_alloc w13 (.cells #[.slice a1h r_n1 c1h, .int .i64 r_i1, .slice a2h r_n2 c2h, .int .i64 r_i2, .int .i64 r_k1, .float .f32 (nv .f32 r_f1_0 t_f1_0h), .float .f32 (nv .f32 r_f1_1 t_f1_1h), .float .f32 (nv .f32 r_f1_2 t_f1_2h), .float .f32 (nv .f32 r_f1_3 t_f1_3h), .float .f32 (nv .f32 r_f1_4 t_f1_4h), .int .i64 r_k2, .float .f32 (nv .f32 r_f2_0 t_f2_0h), .float .f32 (nv .f32 r_f2_1 t_f2_1h), .float .f32 (nv .f32 r_f2_2 t_f2_2h), .float .f32 (nv .f32 r_f2_3 t_f2_3h), .float .f32 (nv .f32 r_f2_4 t_f2_4h), .float .f32 (nv .f32 r_x1 t_x1h), .float .f32 (nv .f32 r_x2 t_x2h)] 31)))).trans (blk_alloc w13 (.cells #[.slice a1h r_n1 c1h, .int .i64 r_i1, .slice a2h r_n2 c2h, .int .i64 r_i2, .int .i64 r_k1, .float .f32 (nv .f32 r_f1_0 t_f1_0h), .float .f32 (nv .f32 r_f1_1 t_f1_1h), .float .f32 (nv .f32 r_f1_2 t_f1_2h), .float .f32 (nv .f32 r_f1_3 t_f1_3h), .float .f32 (nv .f32 r_f1_4 t_f1_4h), .int .i64 r_k2, .float .f32 (nv .f32 r_f2_0 t_f2_0h), .float .f32 (nv .f32 r_f2_1 t_f2_1h), .float .f32 (nv .f32 r_f2_2 t_f2_2h), .float .f32 (nv .f32 r_f2_3 t_f2_3h), .float .f32 (nv .f32 r_f2_4 t_f2_4h), .float .f32 (nv .f32 r_x1 t_x1h), .float .f32 (nv .f32 r_x2 t_x2h)] 31))
  have HB14 := Lib.hid (bUp (bUp (HB13.out) G13) hb14)
  have O1s := Lib.hid ((OF.below O1s.out G13 (Nat.le_refl _)).below hb14 (Nat.le_refl _))
  have O2s := Lib.hid ((OF.below O2s.out G13 (Nat.le_refl _)).below hb14 (Nat.le_refl _))
  have O1i := Lib.hid ((OF.below O1i.out G13 (Nat.le_refl _)).below hb14 (Nat.le_refl _))
  have O2i := Lib.hid ((OF.below O2i.out G13 (Nat.le_refl _)).below hb14 (Nat.le_refl _))
  have O1h := Lib.hid ((OF.below O1h.out G13 (Nat.le_refl _)).below hb14 (Nat.le_refl _))
  have O2h := Lib.hid ((OF.below O2h.out G13 (Nat.le_refl _)).below hb14 (Nat.le_refl _))
  clear kx
  have kx := kxn
  clear kxn
  clear yx
  have yx := ltb kx
  clear ks
  have ks := ksn
  clear ksn
  clear ys
  have ys := ltb ks
  clear kz
  have kz := kzn
  clear kzn
  clear yz
  have yz := ltb kz
  clear ki
  have ki := kin
  clear kin
  clear yi
  have yi := ltb ki
  have kh := khn
  clear khn
  have yh := ltb kh
  clear hb14
  clear G13
  go_wp2_with fail
  refine (c_heldJet' _ _ _ _ _ _ _ _ _ _ _ _ _ _ _ _ _ _ _ _ _ _ 1 _ O1i.out.fs O2i.out.fs (by omega) (by omega)).mono ?_
  rintro e w15 ⟨rfl, hb15⟩
  have S15 : Hid (w14.heap.size + 0 ≤ w15.heap.size) := by show _ ≤ _; have := hb15.size; simpa using this
  have kxn : blkAt w15 w.heap.size = some (.cells #[.slice a1 n1 c1, .int .i64 i1, .slice a2 n2 c2, .int .i64 i2, .int .i64 k1, .float .f32 f1_0, .float .f32 f1_1, .float .f32 f1_2, .float .f32 f1_3, .float .f32 f1_4, .int .i64 k2, .float .f32 f2_0, .float .f32 f2_1, .float .f32 f2_2, .float .f32 f2_3, .float .f32 f2_4, .float .f32 x1, .float .f32 x2] 48) := (hb15.block _ (ltb kx)).trans kx
  have ksn : blkAt w15 w3.heap.size = some (.cells #[.slice a1s r_n1 c1s, .int .i64 r_i1, .slice a2s r_n2 c2s, .int .i64 r_i2, .int .i64 r_k1, .float .f32 (nv .f32 r_f1_0 t_f1_0s), .float .f32 (nv .f32 r_f1_1 t_f1_1s), .float .f32 (nv .f32 r_f1_2 t_f1_2s), .float .f32 (nv .f32 r_f1_3 t_f1_3s), .float .f32 (nv .f32 r_f1_4 t_f1_4s), .int .i64 r_k2, .float .f32 (nv .f32 r_f2_0 t_f2_0s), .float .f32 (nv .f32 r_f2_1 t_f2_1s), .float .f32 (nv .f32 r_f2_2 t_f2_2s), .float .f32 (nv .f32 r_f2_3 t_f2_3s), .float .f32 (nv .f32 r_f2_4 t_f2_4s), .float .f32 (nv .f32 r_x1 t_x1s), .float .f32 (nv .f32 r_x2 t_x2s)] 31) := (hb15.block _ (ltb ks)).trans ks
  have kzn : blkAt w15 w4.heap.size = some (.cells #[.slice (some ⟨g1x, 0, none⟩) n1 n1, .int .i64 i1, .slice (some ⟨g2x, 0, none⟩) n2 n2, .int .i64 i2, .int .i64 k1, .float .f32 f1_0, .float .f32 f1_1, .float .f32 f1_2, .float .f32 f1_3, .float .f32 f1_4, .int .i64 k2, .float .f32 f2_0, .float .f32 f2_1, .float .f32 f2_2, .float .f32 f2_3, .float .f32 f2_4, .float .f32 x1, .float .f32 x2] 31) := (hb15.block _ (ltb kz)).trans kz
  have kin : blkAt w15 w5.heap.size = some (.cells #[.slice a1i r_n1 c1i, .int .i64 r_i1, .slice a2i r_n2 c2i, .int .i64 r_i2, .int .i64 r_k1, .float .f32 (nv .f32 r_f1_0 t_f1_0i), .float .f32 (nv .f32 r_f1_1 t_f1_1i), .float .f32 (nv .f32 r_f1_2 t_f1_2i), .float .f32 (nv .f32 r_f1_3 t_f1_3i), .float .f32 (nv .f32 r_f1_4 t_f1_4i), .int .i64 r_k2, .float .f32 (nv .f32 r_f2_0 t_f2_0i), .float .f32 (nv .f32 r_f2_1 t_f2_1i), .float .f32 (nv .f32 r_f2_2 t_f2_2i), .float .f32 (nv .f32 r_f2_3 t_f2_3i), .float .f32 (nv .f32 r_f2_4 t_f2_4i), .float .f32 (nv .f32 r_x1 t_x1i), .float .f32 (nv .f32 r_x2 t_x2i)] 31) := (hb15.block _ (ltb ki)).trans ki
  have khn : blkAt w15 w13.heap.size = some (.cells #[.slice a1h r_n1 c1h, .int .i64 r_i1, .slice a2h r_n2 c2h, .int .i64 r_i2, .int .i64 r_k1, .float .f32 (nv .f32 r_f1_0 t_f1_0h), .float .f32 (nv .f32 r_f1_1 t_f1_1h), .float .f32 (nv .f32 r_f1_2 t_f1_2h), .float .f32 (nv .f32 r_f1_3 t_f1_3h), .float .f32 (nv .f32 r_f1_4 t_f1_4h), .int .i64 r_k2, .float .f32 (nv .f32 r_f2_0 t_f2_0h), .float .f32 (nv .f32 r_f2_1 t_f2_1h), .float .f32 (nv .f32 r_f2_2 t_f2_2h), .float .f32 (nv .f32 r_f2_3 t_f2_3h), .float .f32 (nv .f32 r_f2_4 t_f2_4h), .float .f32 (nv .f32 r_x1 t_x1h), .float .f32 (nv .f32 r_x2 t_x2h)] 31) := (hb15.block _ (ltb kh)).trans kh
  have HB15 := Lib.hid (bUp (HB14.out) hb15)
  have O1s := Lib.hid (O1s.out.below hb15 (Nat.le_refl _))
  have O2s := Lib.hid (O2s.out.below hb15 (Nat.le_refl _))
  have O1i := Lib.hid (O1i.out.below hb15 (Nat.le_refl _))
  have O2i := Lib.hid (O2i.out.below hb15 (Nat.le_refl _))
  have O1h := Lib.hid (O1h.out.below hb15 (Nat.le_refl _))
  have O2h := Lib.hid (O2h.out.below hb15 (Nat.le_refl _))
  clear kx
  have kx := kxn
  clear kxn
  clear yx
  have yx := ltb kx
  clear ks
  have ks := ksn
  clear ksn
  clear ys
  have ys := ltb ks
  clear kz
  have kz := kzn
  clear kzn
  clear yz
  have yz := ltb kz
  clear ki
  have ki := kin
  clear kin
  clear yi
  have yi := ltb ki
  clear kh
  have kh := khn
  clear khn
  clear yh
  have yh := ltb kh
  clear hb15
  have bE := HB15.out
  go_wp2
  go_ret
  exact ⟨rfl, by (repeat (first | (with_reducible refine Below.drewN ?_) | (with_reducible refine Below.drew ?_) | ((with_reducible refine Below.alloc ?_ ?_ _); rotate_left; (first | omega | (simp <;> omega))) | ((with_reducible refine Below.setCell ?_ ?_ _); rotate_left; (first | omega | (simp <;> omega))) | (with_reducible exact Below.refl _ _) | (with_reducible assumption)))⟩


end Go.Proofs.Ytbkafmikaojclaa
