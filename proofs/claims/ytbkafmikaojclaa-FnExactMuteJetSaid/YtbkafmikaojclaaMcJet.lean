
/-
Muting jets: the program, valid.
-/
import Derived.Test.YtbkafmikaojclaaCyJet
import Derived.Test.YtbkafmikaojclaaMz
namespace Go.Proofs.Ytbkafmikaojclaa
open Go Go.RowKit Fl
set_option linter.unusedSimpArgs false
set_option maxRecDepth 100000 in
set_option maxHeartbeats 2000000 in
theorem c_MuteJet_ok (a1 : Option Addr) (n1 c1 : Nat) (xs1 : List Nat) (i1 : Int) (a2 : Option Addr) (n2 c2 : Nat) (xs2 : List Nat) (i2 : Int) (k1 : Int) (f1_0 f1_1 f1_2 f1_3 f1_4 : Nat) (k2 : Int) (f2_0 f2_1 f2_2 f2_3 f2_4 : Nat) (x1 : Nat) (x2 : Nat) (w : World) (h_1 : FS w a1 n1 c1 xs1) (h_2 : FS w a2 n2 c2 xs2) (hv : valJet n1 xs1 i1 n2 xs2 i2 k1 f1_0 f1_1 f1_2 f1_3 f1_4 k2 f2_0 f2_1 f2_2 f2_3 f2_4 x1 x2 = true) :
    Calls Try.prog 57 #[.agg #[.slice a1 n1 c1, .int .i64 i1, .slice a2 n2 c2, .int .i64 i2, .int .i64 k1, .float .f32 f1_0, .float .f32 f1_1, .float .f32 f1_2, .float .f32 f1_3, .float .f32 f1_4, .int .i64 k2, .float .f32 f2_0, .float .f32 f2_1, .float .f32 f2_2, .float .f32 f2_3, .float .f32 f2_4, .float .f32 x1, .float .f32 x2]] w (NewJet n1 (List.replicate n1 0) i1 n2 (List.replicate n2 0) i2 k1 f1_0 f1_1 f1_2 0 0 k2 f2_0 f2_1 f2_2 0 0 x1 x2 0 w) := by
  have hr1 : ringB n1 i1 = true := valJet_r1 hv
  have hn1 : 1 ≤ n1 ∧ n1 ≤ 1024 := by
    unfold ringB at hr1
    rw [Bool.and_eq_true] at hr1
    have := inB_yes hr1.1
    omega
  obtain ⟨l1, u1⟩ := hn1
  clear hr1
  have hr2 : ringB n2 i2 = true := valJet_r2 hv
  have hn2 : 1 ≤ n2 ∧ n2 ≤ 1024 := by
    unfold ringB at hr2
    rw [Bool.and_eq_true] at hr2
    have := inB_yes hr2.1
    omega
  obtain ⟨l2, u2⟩ := hn2
  clear hr2
  have K1 : Hid (∀ W, Below w.heap.size w W → Calls Try.prog 41 #[.agg #[.slice a1 n1 c1, .int .i64 i1, .slice a2 n2 c2, .int .i64 i2, .int .i64 k1, .float .f32 f1_0, .float .f32 f1_1, .float .f32 f1_2, .float .f32 f1_3, .float .f32 f1_4, .int .i64 k2, .float .f32 f2_0, .float .f32 f2_1, .float .f32 f2_2, .float .f32 f2_3, .float .f32 f2_4, .float .f32 x1, .float .f32 x2]] W (RetV (.bool true) W)) := fun W hb => hv ▸ c_ValidJet _ _ _ _ _ _ _ _ _ _ _ _ _ _ _ _ _ _ _ _ _ _ _ _ W (h_1.below hb (Nat.le_refl _)) (h_2.below hb (Nat.le_refl _))
  clear hv h_1 h_2
  go_enter Try.func57, Try.ntmps57
  go_wp2_with fail
  refine (K1.out _ (by (repeat (first | (with_reducible refine Below.drewN ?_) | (with_reducible refine Below.drew ?_) | ((with_reducible refine Below.alloc ?_ ?_ _); rotate_left; (first | omega | (simp <;> omega))) | ((with_reducible refine Below.setCell ?_ ?_ _); rotate_left; (first | omega | (simp <;> omega))) | ((with_reducible refine Below.setCells ?_ ?_ _); rotate_left; (first | omega | (simp <;> omega))) | (with_reducible exact Below.refl _ _) | (with_reducible assumption))))).mono ?_
  rintro e w1 ⟨rfl, hb1⟩
  have bx1 : blkAt w1 w.heap.size = some (.cells #[.slice a1 n1 c1, .int .i64 i1, .slice a2 n2 c2, .int .i64 i2, .int .i64 k1, .float .f32 f1_0, .float .f32 f1_1, .float .f32 f1_2, .float .f32 f1_3, .float .f32 f1_4, .int .i64 k2, .float .f32 f2_0, .float .f32 f2_1, .float .f32 f2_2, .float .f32 f2_3, .float .f32 f2_4, .float .f32 x1, .float .f32 x2] 31) := (hb1.block w.heap.size (by simp; omega)).trans ((blk_alloc_ne _ _ _ (by simp)).trans (blk_alloc _ _))
  have z1 : blkAt w1 (w.heap.size + 1) = some (.cells #[.slice none 0 0, .int .i64 0, .slice none 0 0, .int .i64 0, .int .i64 0, .float .f32 0, .float .f32 0, .float .f32 0, .float .f32 0, .float .f32 0, .int .i64 0, .float .f32 0, .float .f32 0, .float .f32 0, .float .f32 0, .float .f32 0, .float .f32 0, .float .f32 0] 31) := (hb1.block _ (by simp)).trans (blk_alloc_at _ _ _ (by simp))
  have y1 : w.heap.size + 1 < w1.heap.size := lt_of_blk z1
  have B1 : Below w.heap.size w w1 := Below.trans (by (repeat (first | (with_reducible refine Below.drewN ?_) | (with_reducible refine Below.drew ?_) | ((with_reducible refine Below.alloc ?_ ?_ _); rotate_left; (first | omega | (simp <;> omega))) | ((with_reducible refine Below.setCell ?_ ?_ _); rotate_left; (first | omega | (simp <;> omega))) | ((with_reducible refine Below.setCells ?_ ?_ _); rotate_left; (first | omega | (simp <;> omega))) | (with_reducible exact Below.refl _ _) | (with_reducible assumption)))) (hb1.mono (by simp; omega))
  clear hb1
  go_wp2_with fail
  refine (c_muteB w.heap.size 0 a1 n1 c1 _ _ w1 bx1 rfl (by omega)).mono ?_
  rintro e w2 ⟨rfl, bx20, o1_2, s2, wr2⟩
  have bx2 : blkAt w2 w.heap.size = some (.cells #[.slice (some ⟨w1.heap.size, 0, none⟩) n1 n1, .int .i64 i1, .slice a2 n2 c2, .int .i64 i2, .int .i64 k1, .float .f32 f1_0, .float .f32 f1_1, .float .f32 f1_2, .float .f32 f1_3, .float .f32 f1_4, .int .i64 k2, .float .f32 f2_0, .float .f32 f2_1, .float .f32 f2_2, .float .f32 f2_3, .float .f32 f2_4, .float .f32 x1, .float .f32 x2] 31) := bx20
  clear bx20 bx1
  have z2 : blkAt w2 (w.heap.size + 1) = some (.cells #[.slice none 0 0, .int .i64 0, .slice none 0 0, .int .i64 0, .int .i64 0, .float .f32 0, .float .f32 0, .float .f32 0, .float .f32 0, .float .f32 0, .int .i64 0, .float .f32 0, .float .f32 0, .float .f32 0, .float .f32 0, .float .f32 0, .float .f32 0, .float .f32 0] 31) := (wr2.block _ (by omega) (by simp)).trans z1
  clear z1
  have B2 : Below w.heap.size w w2 := B1.trans (wr2.below (by omega) (by intro g hg; simp at hg; omega))
  go_wp2_with fail
  refine (c_muteB w.heap.size 2 a2 n2 c2 _ _ w2 bx2 rfl (by omega)).mono ?_
  rintro e w3 ⟨rfl, bx30, o2_3, s3, wr3⟩
  have bx3 : blkAt w3 w.heap.size = some (.cells #[.slice (some ⟨w1.heap.size, 0, none⟩) n1 n1, .int .i64 i1, .slice (some ⟨w2.heap.size, 0, none⟩) n2 n2, .int .i64 i2, .int .i64 k1, .float .f32 f1_0, .float .f32 f1_1, .float .f32 f1_2, .float .f32 f1_3, .float .f32 f1_4, .int .i64 k2, .float .f32 f2_0, .float .f32 f2_1, .float .f32 f2_2, .float .f32 f2_3, .float .f32 f2_4, .float .f32 x1, .float .f32 x2] 31) := bx30
  clear bx30 bx2
  have z3 : blkAt w3 (w.heap.size + 1) = some (.cells #[.slice none 0 0, .int .i64 0, .slice none 0 0, .int .i64 0, .int .i64 0, .float .f32 0, .float .f32 0, .float .f32 0, .float .f32 0, .float .f32 0, .int .i64 0, .float .f32 0, .float .f32 0, .float .f32 0, .float .f32 0, .float .f32 0, .float .f32 0, .float .f32 0] 31) := (wr3.block _ (by omega) (by simp)).trans z2
  clear z2
  have B3 : Below w.heap.size w w3 := B2.trans (wr3.below (by omega) (by intro g hg; simp at hg; omega))
  have o1_3 := OF.wr o1_2 wr3 (by simp; omega)
  clear o1_2
  have hf0 := fun i => frozen_blk bx3 i
  have hq8 := cell_blk bx3 8
  have hq9 := cell_blk bx3 9
  have hq14 := cell_blk bx3 14
  have hq15 := cell_blk bx3 15
  simp only [List.getElem?_toArray, List.getElem?_cons_succ, List.getElem?_cons_zero] at hq8 hq9 hq14 hq15
  go_wp2
  refine bodyPost_ret (v := .tuple #[.agg #[.slice (some ⟨w1.heap.size, 0, none⟩) n1 n1, .int .i64 i1, .slice (some ⟨w2.heap.size, 0, none⟩) n2 n2, .int .i64 i2, .int .i64 k1, .float .f32 f1_0, .float .f32 f1_1, .float .f32 f1_2, .float .f32 0, .float .f32 0, .int .i64 k2, .float .f32 f2_0, .float .f32 f2_1, .float .f32 f2_2, .float .f32 0, .float .f32 0, .float .f32 x1, .float .f32 x2], .int .i64 0]) (by simp [results, Try.results57, go_sem, *] <;> rfl) rfl ?_
  exact ⟨_, _, n1, n2, w1.heap.size, w2.heap.size, 0, 0, 0, 0, 0, 0, 0, 0, 0, 0, 0, 0, rfl, by (repeat (first | (with_reducible refine Below.drewN ?_) | (with_reducible refine Below.drew ?_) | ((with_reducible refine Below.alloc ?_ ?_ _); rotate_left; (first | omega | (simp <;> omega))) | ((with_reducible refine Below.setCell ?_ ?_ _); rotate_left; (first | omega | (simp <;> omega))) | ((with_reducible refine Below.setCells ?_ ?_ _); rotate_left; (first | omega | (simp <;> omega))) | (with_reducible exact Below.refl _ _) | (with_reducible assumption))), fun _ => ⟨by omega, by (first | omega | (simp [size_setCells]; omega))⟩, fun _ => ⟨by omega, by (first | omega | (simp [size_setCells]; omega))⟩, by omega, by (repeat (first | (with_reducible assumption) | (with_reducible refine OF.draw ?_) | (with_reducible exact OF.made' (by simp) (by simp) (by omega)) | (with_reducible refine OF.alloc ?_ _) | ((with_reducible refine OF.setCells ?_ ?_ _); rotate_left; (first | omega | (simp <;> omega))) | ((with_reducible refine OF.setCell ?_ ?_ _); rotate_left; (first | omega | (simp <;> omega))))), by (repeat (first | (with_reducible assumption) | (with_reducible refine OF.draw ?_) | (with_reducible exact OF.made' (by simp) (by simp) (by omega)) | (with_reducible refine OF.alloc ?_ _) | ((with_reducible refine OF.setCells ?_ ?_ _); rotate_left; (first | omega | (simp <;> omega))) | ((with_reducible refine OF.setCell ?_ ?_ _); rotate_left; (first | omega | (simp <;> omega)))))⟩


end Go.Proofs.Ytbkafmikaojclaa
