
/-
The text of a jet: both sides.
-/
import Derived.Test.YtbdanadmabemdaaDoorHl
import Derived.Test.YtbdanadmabemdaaDoorJs
import Derived.Test.YtbdanadmabemdaaDoorGj
import Derived.Test.YtbdanadmabemdaaDoorLd
import Derived.Test.YtbdanadmabemdaaDoorGb
namespace Go.Proofs.YtbdanadmabemdaaDoor
open Go Go.RowKit Fl
/-- the text of a jet -/
def txJet (n1 : Nat) (xs1 : List Nat) (i1 : Nat) (n2 : Nat) (xs2 : List Nat) (i2 : Nat) (f1_0 f1_1 f1_2 f1_3 f1_4 : Nat) (f2_0 f2_1 f2_2 f2_3 f2_4 : Nat) (x1 x2 : Nat) : List UInt8 := [106, 101, 116] ++ ((txtL [x1, x2]) ++ ([10] ++ ((filtL 1 [f1_0, f1_1, f1_2] [f1_3, f1_4]) ++ ([10] ++ ((filtL 5 [f2_0, f2_1, f2_2] [f2_3, f2_4]) ++ ([10] ++ ((lineL n1 i1 xs1) ++ ((lineL n2 i2 xs2)))))))))
theorem txJet_i (n1 : Nat) (xs1 : List Nat) (i1 : Nat) (n2 : Nat) (xs2 : List Nat) (i2 : Nat) (f1_0 f1_1 f1_2 f1_3 f1_4 : Nat) (f2_0 f2_1 f2_2 f2_3 f2_4 : Nat) (x1 x2 : Nat) (q1 : xs1 ≠ []) (q2 : xs2 ≠ []) :
    [106, 101, 116, 32] ++ (((txtL [x1, x2]).tail) ++ ([10] ++ ((filtL 1 [f1_0, f1_1, f1_2] [f1_3, f1_4]) ++ ([10] ++ ((filtL 5 [f2_0, f2_1, f2_2] [f2_3, f2_4]) ++ ([10] ++ ((ringL n1 (i1 : Int) xs1) ++ ([10] ++ ((ringL n2 (i2 : Int) xs2) ++ ([10])))))))))) = txJet n1 xs1 i1 n2 xs2 i2 f1_0 f1_1 f1_2 f1_3 f1_4 f2_0 f2_1 f2_2 f2_3 f2_4 x1 x2 := by
  unfold txJet
  rw [← ring_line (n := n1) (i := i1) q1]
  rw [← ring_line (n := n2) (i := i2) q2]
  rw [txt_cons x1 [x2]]
  simp only [List.tail_cons, List.append_assoc, List.cons_append, List.nil_append]
set_option maxRecDepth 100000 in
set_option maxHeartbeats 2000000 in
theorem c_l05Jetted (b : Nat) (a1 : Option Addr) (n1 c1 : Nat) (xs1 : List Nat) (i1 : Nat) (a2 : Option Addr) (n2 c2 : Nat) (xs2 : List Nat) (i2 : Nat) (f1_0 f1_1 f1_2 f1_3 f1_4 : Nat) (f2_0 f2_1 f2_2 f2_3 f2_4 : Nat) (x1 : Nat) (x2 : Nat) (w : World) (h_1 : FS w a1 n1 c1 xs1) (h_2 : FS w a2 n2 c2 xs2) (u1 : 1 ≤ n1) (v1 : n1 ≤ 1024) (t1 : i1 ≤ 1024) (hx1 : ∀ i, nth xs1 i < 4294967296) (u2 : 1 ≤ n2) (v2 : n2 ≤ 1024) (t2 : i2 ≤ 1024) (hx2 : ∀ i, nth xs2 i < 4294967296) (ok1 : okF 1 [f1_0, f1_1, f1_2] [f1_3, f1_4] = true) (g1_0 : f1_0 < 4294967296) (g1_1 : f1_1 < 4294967296) (g1_2 : f1_2 < 4294967296) (g1_3 : f1_3 < 4294967296) (g1_4 : f1_4 < 4294967296) (ok2 : okF 5 [f2_0, f2_1, f2_2] [f2_3, f2_4] = true) (g2_0 : f2_0 < 4294967296) (g2_1 : f2_1 < 4294967296) (g2_2 : f2_2 < 4294967296) (g2_3 : f2_3 < 4294967296) (g2_4 : f2_4 < 4294967296) (y1 : x1 < 4294967296) (y2 : x2 < 4294967296)
    (hb : b < w.heap.size)
    (e0 : w.cell? ⟨b, 0, none⟩ = some (.slice a1 n1 c1))
    (e1 : w.cell? ⟨b, 1, none⟩ = some (.int .i64 (i1 : Int)))
    (e2 : w.cell? ⟨b, 2, none⟩ = some (.slice a2 n2 c2))
    (e3 : w.cell? ⟨b, 3, none⟩ = some (.int .i64 (i2 : Int)))
    (e4 : w.cell? ⟨b, 4, none⟩ = some (.int .i64 1))
    (e5 : w.cell? ⟨b, 5, none⟩ = some (.float .f32 f1_0))
    (e6 : w.cell? ⟨b, 6, none⟩ = some (.float .f32 f1_1))
    (e7 : w.cell? ⟨b, 7, none⟩ = some (.float .f32 f1_2))
    (e8 : w.cell? ⟨b, 8, none⟩ = some (.float .f32 f1_3))
    (e9 : w.cell? ⟨b, 9, none⟩ = some (.float .f32 f1_4))
    (e10 : w.cell? ⟨b, 10, none⟩ = some (.int .i64 5))
    (e11 : w.cell? ⟨b, 11, none⟩ = some (.float .f32 f2_0))
    (e12 : w.cell? ⟨b, 12, none⟩ = some (.float .f32 f2_1))
    (e13 : w.cell? ⟨b, 13, none⟩ = some (.float .f32 f2_2))
    (e14 : w.cell? ⟨b, 14, none⟩ = some (.float .f32 f2_3))
    (e15 : w.cell? ⟨b, 15, none⟩ = some (.float .f32 f2_4))
    (e16 : w.cell? ⟨b, 16, none⟩ = some (.float .f32 x1))
    (e17 : w.cell? ⟨b, 17, none⟩ = some (.float .f32 x2)) :
    Calls Tryd.prog 34 #[.pointer (some ⟨b, 0, none⟩)] w (RetS (txJet n1 xs1 i1 n2 xs2 i2 f1_0 f1_1 f1_2 f1_3 f1_4 f2_0 f2_1 f2_2 f2_3 f2_4 x1 x2) w) := by
  have HR0 : (⟨#[106, 101, 116]⟩ : ByteArray) ++ ⟨(txtL [x1, x2]).toArray⟩ ++ ⟨#[10]⟩ ++ ⟨(filtL 1 [f1_0, f1_1, f1_2] [f1_3, f1_4]).toArray⟩ ++ ⟨#[10]⟩ ++ ⟨(filtL 5 [f2_0, f2_1, f2_2] [f2_3, f2_4]).toArray⟩ ++ ⟨#[10]⟩ ++ ⟨(lineL n1 i1 xs1).toArray⟩ ++ ⟨(lineL n2 i2 xs2).toArray⟩ = ⟨(txJet n1 xs1 i1 n2 xs2 i2 f1_0 f1_1 f1_2 f1_3 f1_4 f2_0 f2_1 f2_2 f2_3 f2_4 x1 x2).toArray⟩ := by
    rw [show (⟨#[106, 101, 116]⟩ : ByteArray) = ⟨([106, 101, 116] : List UInt8).toArray⟩ from rfl, show (⟨#[10]⟩ : ByteArray) = ⟨([10] : List UInt8).toArray⟩ from rfl]
    simp only [ba_app]
    unfold txJet
    simp only [List.append_assoc]
  have HR := Lib.hid HR0
  have K1 : Hid (∀ W g, W.heap[g]? = some (.cells #[.float .f32 x1, .float .f32 x2] 25) → Calls Tryd.prog 50 #[.slice (some ⟨g, 0, none⟩) 2 2] W (RetS (txtL [x1, x2]) W)) := fun W g hg => c_sam2 W g _ _ y1 y2 hg
  have KF1 : Hid (∀ W, Calls Tryd.prog 51 #[.agg #[.int .i64 1, .float .f32 f1_0, .float .f32 f1_1, .float .f32 f1_2, .float .f32 f1_3, .float .f32 f1_4]] W (RetS (filtL 1 [f1_0, f1_1, f1_2] [f1_3, f1_4]) W)) := fun W => c_sFilterText 1 _ _ _ _ _ W (by omega) g1_0 g1_1 g1_2 g1_3 g1_4 ok1
  have KF2 : Hid (∀ W, Calls Tryd.prog 51 #[.agg #[.int .i64 5, .float .f32 f2_0, .float .f32 f2_1, .float .f32 f2_2, .float .f32 f2_3, .float .f32 f2_4]] W (RetS (filtL 5 [f2_0, f2_1, f2_2] [f2_3, f2_4]) W)) := fun W => c_sFilterText 5 _ _ _ _ _ W (by omega) g2_0 g2_1 g2_2 g2_3 g2_4 ok2
  have KR1 : Hid (∀ W, Below w.heap.size w W → Calls Tryd.prog 52 #[.pointer (some ⟨b, 0, none⟩)] W (RetS (lineL n1 i1 xs1) W)) := fun W hW => c_l04Line b 0 _ _ _ _ _ W (Nat.lt_of_lt_of_le hb hW.size) ((hW.cell (p := ⟨b, 0, none⟩) hb).trans e0) ((hW.cell (p := ⟨b, 1, none⟩) hb).trans e1) (h_1.below hW (Nat.le_refl _)) hx1 (by omega) (by omega)
  have KR2 : Hid (∀ W, Below w.heap.size w W → Calls Tryd.prog 52 #[.pointer (some ⟨b, 2, none⟩)] W (RetS (lineL n2 i2 xs2) W)) := fun W hW => c_l04Line b 2 _ _ _ _ _ W (Nat.lt_of_lt_of_le hb hW.size) ((hW.cell (p := ⟨b, 2, none⟩) hb).trans e2) ((hW.cell (p := ⟨b, 3, none⟩) hb).trans e3) (h_2.below hW (Nat.le_refl _)) hx2 (by omega) (by omega)
  have bS : (txtL [x1, x2]).length ≤ 100 := by rw [txt_len]; simp
  have bF1 : (filtL 1 [f1_0, f1_1, f1_2] [f1_3, f1_4]).length ≤ 200 := filtL_len 1 _ _ _ _ _ (by omega)
  have bF2 : (filtL 5 [f2_0, f2_1, f2_2] [f2_3, f2_4]).length ≤ 200 := filtL_len 5 _ _ _ _ _ (by omega)
  have bR1 : (lineL n1 i1 xs1).length ≤ 20000 := lineL_len _ _ _ v1 (by omega) h_1.len
  have bR2 : (lineL n2 i2 xs2).length ≤ 20000 := lineL_len _ _ _ v2 (by omega) h_2.len
  clear HR0 u1 v1 t1 hx1 u2 v2 t2 hx2 ok1 g1_0 g1_1 g1_2 g1_3 g1_4 ok2 g2_0 g2_1 g2_2 g2_3 g2_4 y1 y2 h_1 h_2
  generalize txtL [x1, x2] = LS at *
  generalize filtL 1 [f1_0, f1_1, f1_2] [f1_3, f1_4] = LF1 at *
  generalize filtL 5 [f2_0, f2_1, f2_2] [f2_3, f2_4] = LF2 at *
  generalize lineL n1 i1 xs1 = LR1 at *
  generalize lineL n2 i2 xs2 = LR2 at *
  generalize txJet n1 xs1 i1 n2 xs2 i2 f1_0 f1_1 f1_2 f1_3 f1_4 f2_0 f2_1 f2_2 f2_3 f2_4 x1 x2 = LR at *
  have fa0 : ¬ 9223372036854775807 < 3 + LS.length := by omega
  have fa1 : ¬ 9223372036854775807 < 3 + LS.length + 1 := by omega
  have fa2 : ¬ 9223372036854775807 < 3 + LS.length + 1 + LF1.length := by omega
  have fa3 : ¬ 9223372036854775807 < 3 + LS.length + 1 + LF1.length + 1 := by omega
  have fa4 : ¬ 9223372036854775807 < 3 + LS.length + 1 + LF1.length + 1 + LF2.length := by omega
  have fa5 : ¬ 9223372036854775807 < 3 + LS.length + 1 + LF1.length + 1 + LF2.length + 1 := by omega
  have fa6 : ¬ 9223372036854775807 < 3 + LS.length + 1 + LF1.length + 1 + LF2.length + 1 + LR1.length := by omega
  have fa7 : ¬ 9223372036854775807 < 3 + LS.length + 1 + LF1.length + 1 + LF2.length + 1 + LR1.length + LR2.length := by omega
  clear bS bF1 bF2 bR1 bR2
  go_enter Tryd.func34, Tryd.ntmps34
  go_wp2
  refine wp_region_grow [9] [8] (by kernel_rfl) (by kernel_rfl) (by kernel_rfl) ?_
  apply Exists.intro
  iterate 8 (apply lh_o; kernel_rfl; kernel_rfl; kernel_rfl; (intro W hW; have hWc := Grow.cells hW; go_simp; exact ⟨OneV.mk _, Grow.refl _⟩))
  (apply lh_new; kernel_rfl; kernel_rfl; kernel_rfl; (intro W hW; have hWc := Grow.cells hW; go_simp; exact ⟨NewAt.mk _ _ _ _, Grow.alloc _ _⟩); intro g hfr)
  (apply lh_h; kernel_rfl; kernel_rfl; kernel_rfl; (intro W hW; go_simp; first | exact gB (K1.out _ _ hW.2) | exact gV (K1.out _ _ hW.2)))
  iterate 6 (apply lh_o; kernel_rfl; kernel_rfl; kernel_rfl; (intro W hW; have hWc := Grow.cells hW; go_simp; exact ⟨OneV.mk _, Grow.refl _⟩))
  (apply lh_o; kernel_rfl; kernel_rfl; kernel_rfl; (intro W hW; go_simp; first | exact gB (KF1.out _) | exact gV (KF1.out _)))
  iterate 6 (apply lh_o; kernel_rfl; kernel_rfl; kernel_rfl; (intro W hW; have hWc := Grow.cells hW; go_simp; exact ⟨OneV.mk _, Grow.refl _⟩))
  (apply lh_o; kernel_rfl; kernel_rfl; kernel_rfl; (intro W hW; go_simp; first | exact gB (KF2.out _) | exact gV (KF2.out _)))
  iterate 5 (apply lh_o; kernel_rfl; kernel_rfl; kernel_rfl; (intro W hW; have hWc := Grow.cells hW; go_simp; exact ⟨OneV.mk _, Grow.refl _⟩))
  (apply lh_o; kernel_rfl; kernel_rfl; kernel_rfl; (intro W hW; go_simp; first | exact gB (KR1.out _ hW) | exact gV (KR1.out _ hW)))
  iterate 4 (apply lh_o; kernel_rfl; kernel_rfl; kernel_rfl; (intro W hW; have hWc := Grow.cells hW; go_simp; exact ⟨OneV.mk _, Grow.refl _⟩))
  (apply lh_o; kernel_rfl; kernel_rfl; kernel_rfl; (intro W hW; go_simp; first | exact gB (KR2.out _ hW) | exact gV (KR2.out _ hW)))
  iterate 2 (apply lh_o; kernel_rfl; kernel_rfl; kernel_rfl; (intro W hW; have hWc := Grow.cells hW; go_simp; exact ⟨OneV.mk _, Grow.refl _⟩))
  (refine lh_nil ?_; intro W hW; simp only [Act.put, List.setIfInBounds_toArray, List.set_cons_succ, List.set_cons_zero])
  go_wp2
  go_ret
  exact ⟨by rw [← HR.out]; rfl, hW.1⟩
theorem c_sJetText_no (a1 : Option Addr) (n1 c1 : Nat) (xs1 : List Nat) (i1 : Int) (a2 : Option Addr) (n2 c2 : Nat) (xs2 : List Nat) (i2 : Int) (k1 : Int) (f1_0 f1_1 f1_2 f1_3 f1_4 : Nat) (k2 : Int) (f2_0 f2_1 f2_2 f2_3 f2_4 : Nat) (x1 : Nat) (x2 : Nat) (w : World) (h_1 : FS w a1 n1 c1 xs1) (h_2 : FS w a2 n2 c2 xs2) (hv : valJet n1 xs1 i1 n2 xs2 i2 k1 f1_0 f1_1 f1_2 f1_3 f1_4 k2 f2_0 f2_1 f2_2 f2_3 f2_4 x1 x2 = false) :
    Calls Tryd.prog 12 #[.agg #[.slice a1 n1 c1, .int .i64 i1, .slice a2 n2 c2, .int .i64 i2, .int .i64 k1, .float .f32 f1_0, .float .f32 f1_1, .float .f32 f1_2, .float .f32 f1_3, .float .f32 f1_4, .int .i64 k2, .float .f32 f2_0, .float .f32 f2_1, .float .f32 f2_2, .float .f32 f2_3, .float .f32 f2_4, .float .f32 x1, .float .f32 x2]] w (RetS [] w) := by
  have V := c_l05Jet w.heap.size 0 a1 n1 c1 xs1 i1 a2 n2 c2 xs2 i2 k1 f1_0 f1_1 f1_2 f1_3 f1_4 k2 f2_0 f2_1 f2_2 f2_3 f2_4 x1 x2 (w.alloc (.cells #[.slice a1 n1 c1, .int .i64 i1, .slice a2 n2 c2, .int .i64 i2, .int .i64 k1, .float .f32 f1_0, .float .f32 f1_1, .float .f32 f1_2, .float .f32 f1_3, .float .f32 f1_4, .int .i64 k2, .float .f32 f2_0, .float .f32 f2_1, .float .f32 f2_2, .float .f32 f2_3, .float .f32 f2_4, .float .f32 x1, .float .f32 x2] 46)) (FS.below (B := w.heap.size) h_1 (by (repeat (first | (with_reducible refine Below.drewN ?_) | (with_reducible refine Below.drew ?_) | ((with_reducible refine Below.alloc ?_ ?_ _); rotate_left; (first | omega | (simp <;> omega))) | ((with_reducible refine Below.setCell ?_ ?_ _); rotate_left; (first | omega | (simp <;> omega))) | (with_reducible exact Below.refl _ _) | (with_reducible assumption)))) (Nat.le_refl _)) (FS.below (B := w.heap.size) h_2 (by (repeat (first | (with_reducible refine Below.drewN ?_) | (with_reducible refine Below.drew ?_) | ((with_reducible refine Below.alloc ?_ ?_ _); rotate_left; (first | omega | (simp <;> omega))) | ((with_reducible refine Below.setCell ?_ ?_ _); rotate_left; (first | omega | (simp <;> omega))) | (with_reducible exact Below.refl _ _) | (with_reducible assumption)))) (Nat.le_refl _)) (by simp) (by simp) (by simp) (by simp) (by simp) (by simp) (by simp) (by simp) (by simp) (by simp) (by simp) (by simp) (by simp) (by simp) (by simp) (by simp) (by simp) (by simp) (by simp)
  rw [show (((((ringB n1 i1 && finTo xs1 n1) && (ringB n2 i2 && finTo xs2 n2)) && (okF k1 [f1_0, f1_1, f1_2] [f1_3, f1_4] && (k1 == 1))) && (okF k2 [f2_0, f2_1, f2_2] [f2_3, f2_4] && (k2 == 5))) && (finTo [x1, x2] 2)) = false from hv] at V
  have HV := Lib.hid V
  clear V hv h_1 h_2
  go_enter Tryd.func12, Tryd.ntmps12
  go_wp2_with fail
  refine HV.out.mono ?_
  rintro e w1 ⟨rfl, hb1⟩
  have bW : Below w.heap.size w w1 := Below.trans (by (repeat (first | (with_reducible refine Below.drewN ?_) | (with_reducible refine Below.drew ?_) | ((with_reducible refine Below.alloc ?_ ?_ _); rotate_left; (first | omega | (simp <;> omega))) | ((with_reducible refine Below.setCell ?_ ?_ _); rotate_left; (first | omega | (simp <;> omega))) | (with_reducible exact Below.refl _ _) | (with_reducible assumption)))) (hb1.mono (by simp))
  clear hb1
  go_wp2
  go_ret
  exact ⟨rfl, bW⟩
theorem c_iJetText_no (a1 : Option Addr) (n1 c1 : Nat) (xs1 : List Nat) (i1 : Int) (a2 : Option Addr) (n2 c2 : Nat) (xs2 : List Nat) (i2 : Int) (k1 : Int) (f1_0 f1_1 f1_2 f1_3 f1_4 : Nat) (k2 : Int) (f2_0 f2_1 f2_2 f2_3 f2_4 : Nat) (x1 : Nat) (x2 : Nat) (w : World) (h_1 : FS w a1 n1 c1 xs1) (h_2 : FS w a2 n2 c2 xs2) (hv : valJet n1 xs1 i1 n2 xs2 i2 k1 f1_0 f1_1 f1_2 f1_3 f1_4 k2 f2_0 f2_1 f2_2 f2_3 f2_4 x1 x2 = false) :
    Calls Tryd.prog 14 #[.agg #[.slice a1 n1 c1, .int .i64 i1, .slice a2 n2 c2, .int .i64 i2, .int .i64 k1, .float .f32 f1_0, .float .f32 f1_1, .float .f32 f1_2, .float .f32 f1_3, .float .f32 f1_4, .int .i64 k2, .float .f32 f2_0, .float .f32 f2_1, .float .f32 f2_2, .float .f32 f2_3, .float .f32 f2_4, .float .f32 x1, .float .f32 x2]] w (RetS [] w) := by
  have V := c_ValidJet a1 n1 c1 xs1 i1 a2 n2 c2 xs2 i2 k1 f1_0 f1_1 f1_2 f1_3 f1_4 k2 f2_0 f2_1 f2_2 f2_3 f2_4 x1 x2 (w.alloc (.cells #[.slice a1 n1 c1, .int .i64 i1, .slice a2 n2 c2, .int .i64 i2, .int .i64 k1, .float .f32 f1_0, .float .f32 f1_1, .float .f32 f1_2, .float .f32 f1_3, .float .f32 f1_4, .int .i64 k2, .float .f32 f2_0, .float .f32 f2_1, .float .f32 f2_2, .float .f32 f2_3, .float .f32 f2_4, .float .f32 x1, .float .f32 x2] 46)) (FS.below (B := w.heap.size) h_1 (by (repeat (first | (with_reducible refine Below.drewN ?_) | (with_reducible refine Below.drew ?_) | ((with_reducible refine Below.alloc ?_ ?_ _); rotate_left; (first | omega | (simp <;> omega))) | ((with_reducible refine Below.setCell ?_ ?_ _); rotate_left; (first | omega | (simp <;> omega))) | (with_reducible exact Below.refl _ _) | (with_reducible assumption)))) (Nat.le_refl _)) (FS.below (B := w.heap.size) h_2 (by (repeat (first | (with_reducible refine Below.drewN ?_) | (with_reducible refine Below.drew ?_) | ((with_reducible refine Below.alloc ?_ ?_ _); rotate_left; (first | omega | (simp <;> omega))) | ((with_reducible refine Below.setCell ?_ ?_ _); rotate_left; (first | omega | (simp <;> omega))) | (with_reducible exact Below.refl _ _) | (with_reducible assumption)))) (Nat.le_refl _))
  rw [hv] at V
  have HV := Lib.hid V
  clear V hv h_1 h_2
  go_enter Tryd.func14, Tryd.ntmps14
  go_wp2_with fail
  refine HV.out.mono ?_
  rintro e w1 ⟨rfl, hb1⟩
  have bW : Below w.heap.size w w1 := Below.trans (by (repeat (first | (with_reducible refine Below.drewN ?_) | (with_reducible refine Below.drew ?_) | ((with_reducible refine Below.alloc ?_ ?_ _); rotate_left; (first | omega | (simp <;> omega))) | ((with_reducible refine Below.setCell ?_ ?_ _); rotate_left; (first | omega | (simp <;> omega))) | (with_reducible exact Below.refl _ _) | (with_reducible assumption)))) (hb1.mono (by simp))
  clear hb1
  go_wp2
  go_ret
  exact ⟨rfl, bW⟩
set_option maxRecDepth 100000 in
set_option maxHeartbeats 2000000 in
theorem c_sJetText_ok (a1 : Option Addr) (n1 c1 : Nat) (xs1 : List Nat) (i1 : Nat) (a2 : Option Addr) (n2 c2 : Nat) (xs2 : List Nat) (i2 : Nat) (f1_0 f1_1 f1_2 f1_3 f1_4 : Nat) (f2_0 f2_1 f2_2 f2_3 f2_4 : Nat) (x1 : Nat) (x2 : Nat) (w : World) (h_1 : FS w a1 n1 c1 xs1) (h_2 : FS w a2 n2 c2 xs2) (u1 : 1 ≤ n1) (v1 : n1 ≤ 1024) (t1 : i1 ≤ 1024) (hx1 : ∀ i, nth xs1 i < 4294967296) (u2 : 1 ≤ n2) (v2 : n2 ≤ 1024) (t2 : i2 ≤ 1024) (hx2 : ∀ i, nth xs2 i < 4294967296) (ok1 : okF 1 [f1_0, f1_1, f1_2] [f1_3, f1_4] = true) (g1_0 : f1_0 < 4294967296) (g1_1 : f1_1 < 4294967296) (g1_2 : f1_2 < 4294967296) (g1_3 : f1_3 < 4294967296) (g1_4 : f1_4 < 4294967296) (ok2 : okF 5 [f2_0, f2_1, f2_2] [f2_3, f2_4] = true) (g2_0 : f2_0 < 4294967296) (g2_1 : f2_1 < 4294967296) (g2_2 : f2_2 < 4294967296) (g2_3 : f2_3 < 4294967296) (g2_4 : f2_4 < 4294967296) (y1 : x1 < 4294967296) (y2 : x2 < 4294967296)
    (hv : valJet n1 xs1 (i1 : Int) n2 xs2 (i2 : Int) 1 f1_0 f1_1 f1_2 f1_3 f1_4 5 f2_0 f2_1 f2_2 f2_3 f2_4 x1 x2 = true) :
    Calls Tryd.prog 12 #[.agg #[.slice a1 n1 c1, .int .i64 (i1 : Int), .slice a2 n2 c2, .int .i64 (i2 : Int), .int .i64 1, .float .f32 f1_0, .float .f32 f1_1, .float .f32 f1_2, .float .f32 f1_3, .float .f32 f1_4, .int .i64 5, .float .f32 f2_0, .float .f32 f2_1, .float .f32 f2_2, .float .f32 f2_3, .float .f32 f2_4, .float .f32 x1, .float .f32 x2]] w (RetS (txJet n1 xs1 i1 n2 xs2 i2 f1_0 f1_1 f1_2 f1_3 f1_4 f2_0 f2_1 f2_2 f2_3 f2_4 x1 x2) w) := by
  have V := c_l05Jet w.heap.size 0 a1 n1 c1 xs1 (i1 : Int) a2 n2 c2 xs2 (i2 : Int) 1 f1_0 f1_1 f1_2 f1_3 f1_4 5 f2_0 f2_1 f2_2 f2_3 f2_4 x1 x2 (w.alloc (.cells #[.slice a1 n1 c1, .int .i64 (i1 : Int), .slice a2 n2 c2, .int .i64 (i2 : Int), .int .i64 1, .float .f32 f1_0, .float .f32 f1_1, .float .f32 f1_2, .float .f32 f1_3, .float .f32 f1_4, .int .i64 5, .float .f32 f2_0, .float .f32 f2_1, .float .f32 f2_2, .float .f32 f2_3, .float .f32 f2_4, .float .f32 x1, .float .f32 x2] 46)) (FS.below (B := w.heap.size) h_1 (by (repeat (first | (with_reducible refine Below.drewN ?_) | (with_reducible refine Below.drew ?_) | ((with_reducible refine Below.alloc ?_ ?_ _); rotate_left; (first | omega | (simp <;> omega))) | ((with_reducible refine Below.setCell ?_ ?_ _); rotate_left; (first | omega | (simp <;> omega))) | (with_reducible exact Below.refl _ _) | (with_reducible assumption)))) (Nat.le_refl _)) (FS.below (B := w.heap.size) h_2 (by (repeat (first | (with_reducible refine Below.drewN ?_) | (with_reducible refine Below.drew ?_) | ((with_reducible refine Below.alloc ?_ ?_ _); rotate_left; (first | omega | (simp <;> omega))) | ((with_reducible refine Below.setCell ?_ ?_ _); rotate_left; (first | omega | (simp <;> omega))) | (with_reducible exact Below.refl _ _) | (with_reducible assumption)))) (Nat.le_refl _)) (by simp) (by simp) (by simp) (by simp) (by simp) (by simp) (by simp) (by simp) (by simp) (by simp) (by simp) (by simp) (by simp) (by simp) (by simp) (by simp) (by simp) (by simp) (by simp)
  rw [show (((((ringB n1 (i1 : Int) && finTo xs1 n1) && (ringB n2 (i2 : Int) && finTo xs2 n2)) && (okF (1 : Int) [f1_0, f1_1, f1_2] [f1_3, f1_4] && ((1 : Int) == 1))) && (okF (5 : Int) [f2_0, f2_1, f2_2] [f2_3, f2_4] && ((5 : Int) == 5))) && (finTo [x1, x2] 2)) = true from hv] at V
  have HV := Lib.hid V
  clear V hv
  have E : Hid (∀ w1, Below (w.alloc (.cells #[.slice a1 n1 c1, .int .i64 (i1 : Int), .slice a2 n2 c2, .int .i64 (i2 : Int), .int .i64 1, .float .f32 f1_0, .float .f32 f1_1, .float .f32 f1_2, .float .f32 f1_3, .float .f32 f1_4, .int .i64 5, .float .f32 f2_0, .float .f32 f2_1, .float .f32 f2_2, .float .f32 f2_3, .float .f32 f2_4, .float .f32 x1, .float .f32 x2] 46)).heap.size (w.alloc (.cells #[.slice a1 n1 c1, .int .i64 (i1 : Int), .slice a2 n2 c2, .int .i64 (i2 : Int), .int .i64 1, .float .f32 f1_0, .float .f32 f1_1, .float .f32 f1_2, .float .f32 f1_3, .float .f32 f1_4, .int .i64 5, .float .f32 f2_0, .float .f32 f2_1, .float .f32 f2_2, .float .f32 f2_3, .float .f32 f2_4, .float .f32 x1, .float .f32 x2] 46)) w1 → Below w.heap.size w w1 → Calls Tryd.prog 34 #[.pointer (some ⟨w.heap.size, 0, none⟩)] w1 (RetS (txJet n1 xs1 i1 n2 xs2 i2 f1_0 f1_1 f1_2 f1_3 f1_4 f2_0 f2_1 f2_2 f2_3 f2_4 x1 x2) w1)) := fun w1 hb1 bW => by
    have kA : w1.heap[w.heap.size]? = some (.cells #[.slice a1 n1 c1, .int .i64 (i1 : Int), .slice a2 n2 c2, .int .i64 (i2 : Int), .int .i64 1, .float .f32 f1_0, .float .f32 f1_1, .float .f32 f1_2, .float .f32 f1_3, .float .f32 f1_4, .int .i64 5, .float .f32 f2_0, .float .f32 f2_1, .float .f32 f2_2, .float .f32 f2_3, .float .f32 f2_4, .float .f32 x1, .float .f32 x2] 46) := (hb1.block _ (by simp)).trans (MapKept.heap_alloc w _).1
    exact c_l05Jetted w.heap.size a1 n1 c1 xs1 i1 a2 n2 c2 xs2 i2 f1_0 f1_1 f1_2 f1_3 f1_4 f2_0 f2_1 f2_2 f2_3 f2_4 x1 x2 w1 (h_1.below bW (Nat.le_refl _)) (h_2.below bW (Nat.le_refl _)) u1 v1 t1 hx1 u2 v2 t2 hx2 ok1 g1_0 g1_1 g1_2 g1_3 g1_4 ok2 g2_0 g2_1 g2_2 g2_3 g2_4 y1 y2 (Array.getElem?_eq_some_iff.1 kA).1 (cell_of kA 0 rfl) (cell_of kA 1 rfl) (cell_of kA 2 rfl) (cell_of kA 3 rfl) (cell_of kA 4 rfl) (cell_of kA 5 rfl) (cell_of kA 6 rfl) (cell_of kA 7 rfl) (cell_of kA 8 rfl) (cell_of kA 9 rfl) (cell_of kA 10 rfl) (cell_of kA 11 rfl) (cell_of kA 12 rfl) (cell_of kA 13 rfl) (cell_of kA 14 rfl) (cell_of kA 15 rfl) (cell_of kA 16 rfl) (cell_of kA 17 rfl)
  clear u1 v1 t1 hx1 u2 v2 t2 hx2 ok1 g1_0 g1_1 g1_2 g1_3 g1_4 ok2 g2_0 g2_1 g2_2 g2_3 g2_4 y1 y2 h_1 h_2
  generalize txJet n1 xs1 i1 n2 xs2 i2 f1_0 f1_1 f1_2 f1_3 f1_4 f2_0 f2_1 f2_2 f2_3 f2_4 x1 x2 = LR at *
  go_enter Tryd.func12, Tryd.ntmps12
  go_wp2_with fail
  refine HV.out.mono ?_
  rintro e w1 ⟨rfl, hb1⟩
  have bW : Below w.heap.size w w1 := Below.trans (by (repeat (first | (with_reducible refine Below.drewN ?_) | (with_reducible refine Below.drew ?_) | ((with_reducible refine Below.alloc ?_ ?_ _); rotate_left; (first | omega | (simp <;> omega))) | ((with_reducible refine Below.setCell ?_ ?_ _); rotate_left; (first | omega | (simp <;> omega))) | (with_reducible exact Below.refl _ _) | (with_reducible assumption)))) (hb1.mono (by simp))
  have E1 := Lib.hid (E.out w1 hb1 bW)
  clear hb1 E
  go_wp2_with fail
  refine E1.out.mono ?_
  rintro e w2 ⟨rfl, hb2⟩
  have bW2 := bW.trans (hb2.mono bW.size)
  clear hb2
  go_wp2
  go_ret
  exact ⟨rfl, bW2⟩
set_option maxRecDepth 100000 in
set_option maxHeartbeats 2000000 in
theorem c_iJetText_ok (a1 : Option Addr) (n1 c1 : Nat) (xs1 : List Nat) (i1 : Nat) (a2 : Option Addr) (n2 c2 : Nat) (xs2 : List Nat) (i2 : Nat) (f1_0 f1_1 f1_2 f1_3 f1_4 : Nat) (f2_0 f2_1 f2_2 f2_3 f2_4 : Nat) (x1 : Nat) (x2 : Nat) (w : World) (hT : Tb w) (h_1 : FS w a1 n1 c1 xs1) (h_2 : FS w a2 n2 c2 xs2) (u1 : 1 ≤ n1) (v1 : n1 ≤ 1024) (t1 : i1 ≤ 1024) (hx1 : ∀ i, nth xs1 i < 4294967296) (u2 : 1 ≤ n2) (v2 : n2 ≤ 1024) (t2 : i2 ≤ 1024) (hx2 : ∀ i, nth xs2 i < 4294967296) (ok1 : okF 1 [f1_0, f1_1, f1_2] [f1_3, f1_4] = true) (g1_0 : f1_0 < 4294967296) (g1_1 : f1_1 < 4294967296) (g1_2 : f1_2 < 4294967296) (g1_3 : f1_3 < 4294967296) (g1_4 : f1_4 < 4294967296) (ok2 : okF 5 [f2_0, f2_1, f2_2] [f2_3, f2_4] = true) (g2_0 : f2_0 < 4294967296) (g2_1 : f2_1 < 4294967296) (g2_2 : f2_2 < 4294967296) (g2_3 : f2_3 < 4294967296) (g2_4 : f2_4 < 4294967296) (y1 : x1 < 4294967296) (y2 : x2 < 4294967296)
    (hv : valJet n1 xs1 (i1 : Int) n2 xs2 (i2 : Int) 1 f1_0 f1_1 f1_2 f1_3 f1_4 5 f2_0 f2_1 f2_2 f2_3 f2_4 x1 x2 = true) :
    Calls Tryd.prog 14 #[.agg #[.slice a1 n1 c1, .int .i64 (i1 : Int), .slice a2 n2 c2, .int .i64 (i2 : Int), .int .i64 1, .float .f32 f1_0, .float .f32 f1_1, .float .f32 f1_2, .float .f32 f1_3, .float .f32 f1_4, .int .i64 5, .float .f32 f2_0, .float .f32 f2_1, .float .f32 f2_2, .float .f32 f2_3, .float .f32 f2_4, .float .f32 x1, .float .f32 x2]] w (RetS (txJet n1 xs1 i1 n2 xs2 i2 f1_0 f1_1 f1_2 f1_3 f1_4 f2_0 f2_1 f2_2 f2_3 f2_4 x1 x2) w) := by
  have HR0 : (⟨#[106, 101, 116, 32]⟩ : ByteArray) ++ ⟨((txtL [x1, x2]).tail).toArray⟩ ++ ⟨#[10]⟩ ++ ⟨(filtL 1 [f1_0, f1_1, f1_2] [f1_3, f1_4]).toArray⟩ ++ ⟨#[10]⟩ ++ ⟨(filtL 5 [f2_0, f2_1, f2_2] [f2_3, f2_4]).toArray⟩ ++ ⟨#[10]⟩ ++ ⟨(ringL n1 (i1 : Int) xs1).toArray⟩ ++ ⟨#[10]⟩ ++ ⟨(ringL n2 (i2 : Int) xs2).toArray⟩ ++ ⟨#[10]⟩ = ⟨(txJet n1 xs1 i1 n2 xs2 i2 f1_0 f1_1 f1_2 f1_3 f1_4 f2_0 f2_1 f2_2 f2_3 f2_4 x1 x2).toArray⟩ := by
    rw [show (⟨#[106, 101, 116, 32]⟩ : ByteArray) = ⟨([106, 101, 116, 32] : List UInt8).toArray⟩ from rfl, show (⟨#[10]⟩ : ByteArray) = ⟨([10] : List UInt8).toArray⟩ from rfl]
    simp only [ba_app]
    rw [← txJet_i n1 xs1 i1 n2 xs2 i2 f1_0 f1_1 f1_2 f1_3 f1_4 f2_0 f2_1 f2_2 f2_3 f2_4 x1 x2 (xs_ne h_1.len u1) (xs_ne h_2.len u2)]
    simp only [List.append_assoc]
  have HR := Lib.hid HR0
  clear HR0
  have V := c_ValidJet a1 n1 c1 xs1 (i1 : Int) a2 n2 c2 xs2 (i2 : Int) 1 f1_0 f1_1 f1_2 f1_3 f1_4 5 f2_0 f2_1 f2_2 f2_3 f2_4 x1 x2 (w.alloc (.cells #[.slice a1 n1 c1, .int .i64 (i1 : Int), .slice a2 n2 c2, .int .i64 (i2 : Int), .int .i64 1, .float .f32 f1_0, .float .f32 f1_1, .float .f32 f1_2, .float .f32 f1_3, .float .f32 f1_4, .int .i64 5, .float .f32 f2_0, .float .f32 f2_1, .float .f32 f2_2, .float .f32 f2_3, .float .f32 f2_4, .float .f32 x1, .float .f32 x2] 46)) (FS.below (B := w.heap.size) h_1 (by (repeat (first | (with_reducible refine Below.drewN ?_) | (with_reducible refine Below.drew ?_) | ((with_reducible refine Below.alloc ?_ ?_ _); rotate_left; (first | omega | (simp <;> omega))) | ((with_reducible refine Below.setCell ?_ ?_ _); rotate_left; (first | omega | (simp <;> omega))) | (with_reducible exact Below.refl _ _) | (with_reducible assumption)))) (Nat.le_refl _)) (FS.below (B := w.heap.size) h_2 (by (repeat (first | (with_reducible refine Below.drewN ?_) | (with_reducible refine Below.drew ?_) | ((with_reducible refine Below.alloc ?_ ?_ _); rotate_left; (first | omega | (simp <;> omega))) | ((with_reducible refine Below.setCell ?_ ?_ _); rotate_left; (first | omega | (simp <;> omega))) | (with_reducible exact Below.refl _ _) | (with_reducible assumption)))) (Nat.le_refl _))
  rw [hv] at V
  have HV := Lib.hid V
  clear V hv
  go_enter Tryd.func14, Tryd.ntmps14
  go_wp2_with fail
  refine HV.out.mono ?_
  rintro e w1 ⟨rfl, hb1⟩
  have bW : Below w.heap.size w w1 := Below.trans (by (repeat (first | (with_reducible refine Below.drewN ?_) | (with_reducible refine Below.drew ?_) | ((with_reducible refine Below.alloc ?_ ?_ _); rotate_left; (first | omega | (simp <;> omega))) | ((with_reducible refine Below.setCell ?_ ?_ _); rotate_left; (first | omega | (simp <;> omega))) | (with_reducible exact Below.refl _ _) | (with_reducible assumption)))) (hb1.mono (by simp))
  have kA : w1.heap[w.heap.size]? = some (.cells #[.slice a1 n1 c1, .int .i64 (i1 : Int), .slice a2 n2 c2, .int .i64 (i2 : Int), .int .i64 1, .float .f32 f1_0, .float .f32 f1_1, .float .f32 f1_2, .float .f32 f1_3, .float .f32 f1_4, .int .i64 5, .float .f32 f2_0, .float .f32 f2_1, .float .f32 f2_2, .float .f32 f2_3, .float .f32 f2_4, .float .f32 x1, .float .f32 x2] 46) := (hb1.block _ (by simp)).trans (MapKept.heap_alloc w _).1
  have zW : w.heap.size < w1.heap.size := (Array.getElem?_eq_some_iff.1 kA).1
  have e0 : w1.cell? ⟨w.heap.size, 0, none⟩ = some (.slice a1 n1 c1) := cell_of kA 0 rfl
  have e1 : w1.cell? ⟨w.heap.size, 1, none⟩ = some (.int .i64 (i1 : Int)) := cell_of kA 1 rfl
  have e2 : w1.cell? ⟨w.heap.size, 2, none⟩ = some (.slice a2 n2 c2) := cell_of kA 2 rfl
  have e3 : w1.cell? ⟨w.heap.size, 3, none⟩ = some (.int .i64 (i2 : Int)) := cell_of kA 3 rfl
  have e4 : w1.cell? ⟨w.heap.size, 4, none⟩ = some (.int .i64 1) := cell_of kA 4 rfl
  have e5 : w1.cell? ⟨w.heap.size, 5, none⟩ = some (.float .f32 f1_0) := cell_of kA 5 rfl
  have e6 : w1.cell? ⟨w.heap.size, 6, none⟩ = some (.float .f32 f1_1) := cell_of kA 6 rfl
  have e7 : w1.cell? ⟨w.heap.size, 7, none⟩ = some (.float .f32 f1_2) := cell_of kA 7 rfl
  have e8 : w1.cell? ⟨w.heap.size, 8, none⟩ = some (.float .f32 f1_3) := cell_of kA 8 rfl
  have e9 : w1.cell? ⟨w.heap.size, 9, none⟩ = some (.float .f32 f1_4) := cell_of kA 9 rfl
  have e10 : w1.cell? ⟨w.heap.size, 10, none⟩ = some (.int .i64 5) := cell_of kA 10 rfl
  have e11 : w1.cell? ⟨w.heap.size, 11, none⟩ = some (.float .f32 f2_0) := cell_of kA 11 rfl
  have e12 : w1.cell? ⟨w.heap.size, 12, none⟩ = some (.float .f32 f2_1) := cell_of kA 12 rfl
  have e13 : w1.cell? ⟨w.heap.size, 13, none⟩ = some (.float .f32 f2_2) := cell_of kA 13 rfl
  have e14 : w1.cell? ⟨w.heap.size, 14, none⟩ = some (.float .f32 f2_3) := cell_of kA 14 rfl
  have e15 : w1.cell? ⟨w.heap.size, 15, none⟩ = some (.float .f32 f2_4) := cell_of kA 15 rfl
  have e16 : w1.cell? ⟨w.heap.size, 16, none⟩ = some (.float .f32 x1) := cell_of kA 16 rfl
  have e17 : w1.cell? ⟨w.heap.size, 17, none⟩ = some (.float .f32 x2) := cell_of kA 17 rfl
  have K1 : Hid (∀ W g, Below w1.heap.size w1 W → W.heap[g]? = some (.cells #[.float .f32 x1, .float .f32 x2] 25) → Calls Tryd.prog 27 #[.slice (some ⟨g, 0, none⟩) 2 2] W (RetS (txtL [x1, x2]).tail W)) := fun W g hW hg => c_isam2 W g _ _ y1 y2 hg (hT.below (B := w.heap.size) (bW.trans (hW.mono bW.size)) (Nat.le_refl _))
  have KF1 : Hid (∀ W, Below w1.heap.size w1 W → Calls Tryd.prog 28 #[.agg #[.int .i64 1, .float .f32 f1_0, .float .f32 f1_1, .float .f32 f1_2, .float .f32 f1_3, .float .f32 f1_4]] W (RetS (filtL 1 [f1_0, f1_1, f1_2] [f1_3, f1_4]) W)) := fun W hW => c_FilterText 1 _ _ _ _ _ W (by omega) (by omega) g1_0 g1_1 g1_2 g1_3 g1_4 (hT.below (B := w.heap.size) (bW.trans (hW.mono bW.size)) (Nat.le_refl _)) ok1
  have KF2 : Hid (∀ W, Below w1.heap.size w1 W → Calls Tryd.prog 28 #[.agg #[.int .i64 5, .float .f32 f2_0, .float .f32 f2_1, .float .f32 f2_2, .float .f32 f2_3, .float .f32 f2_4]] W (RetS (filtL 5 [f2_0, f2_1, f2_2] [f2_3, f2_4]) W)) := fun W hW => c_FilterText 5 _ _ _ _ _ W (by omega) (by omega) g2_0 g2_1 g2_2 g2_3 g2_4 (hT.below (B := w.heap.size) (bW.trans (hW.mono bW.size)) (Nat.le_refl _)) ok2
  have KR1 : Hid (∀ W, Below w1.heap.size w1 W → Calls Tryd.prog 29 #[.agg #[.slice a1 n1 c1, .int .i64 (i1 : Int)]] W (RetS (ringL n1 (i1 : Int) xs1) W)) := fun W hW => c_ringText _ _ _ _ _ W (h_1.below (B := w.heap.size) (bW.trans (hW.mono bW.size)) (Nat.le_refl _)) hx1 (by omega) (by omega) (by omega) (hT.below (B := w.heap.size) (bW.trans (hW.mono bW.size)) (Nat.le_refl _))
  have KR2 : Hid (∀ W, Below w1.heap.size w1 W → Calls Tryd.prog 29 #[.agg #[.slice a2 n2 c2, .int .i64 (i2 : Int)]] W (RetS (ringL n2 (i2 : Int) xs2) W)) := fun W hW => c_ringText _ _ _ _ _ W (h_2.below (B := w.heap.size) (bW.trans (hW.mono bW.size)) (Nat.le_refl _)) hx2 (by omega) (by omega) (by omega) (hT.below (B := w.heap.size) (bW.trans (hW.mono bW.size)) (Nat.le_refl _))
  have bS : (txtL [x1, x2]).tail.length ≤ 100 := by rw [List.length_tail, txt_len]; simp
  have bF1 : (filtL 1 [f1_0, f1_1, f1_2] [f1_3, f1_4]).length ≤ 200 := filtL_len 1 _ _ _ _ _ (by omega)
  have bF2 : (filtL 5 [f2_0, f2_1, f2_2] [f2_3, f2_4]).length ≤ 200 := filtL_len 5 _ _ _ _ _ (by omega)
  have bR1 : (ringL n1 (i1 : Int) xs1).length ≤ 20000 := ringL_len _ _ _ v1 (by omega) h_1.len
  have bR2 : (ringL n2 (i2 : Int) xs2).length ≤ 20000 := ringL_len _ _ _ v2 (by omega) h_2.len
  have BW := Lib.hid bW
  clear hb1 kA bW HV u1 v1 t1 hx1 u2 v2 t2 hx2 ok1 g1_0 g1_1 g1_2 g1_3 g1_4 ok2 g2_0 g2_1 g2_2 g2_3 g2_4 y1 y2 hT h_1 h_2
  generalize (txtL [x1, x2]).tail = LS at *
  generalize filtL 1 [f1_0, f1_1, f1_2] [f1_3, f1_4] = LF1 at *
  generalize filtL 5 [f2_0, f2_1, f2_2] [f2_3, f2_4] = LF2 at *
  generalize ringL n1 (i1 : Int) xs1 = LR1 at *
  generalize ringL n2 (i2 : Int) xs2 = LR2 at *
  generalize txJet n1 xs1 i1 n2 xs2 i2 f1_0 f1_1 f1_2 f1_3 f1_4 f2_0 f2_1 f2_2 f2_3 f2_4 x1 x2 = LR at *
  have fa0 : ¬ 9223372036854775807 < 4 + LS.length := by omega
  have fa1 : ¬ 9223372036854775807 < 4 + LS.length + 1 := by omega
  have fa2 : ¬ 9223372036854775807 < 4 + LS.length + 1 + LF1.length := by omega
  have fa3 : ¬ 9223372036854775807 < 4 + LS.length + 1 + LF1.length + 1 := by omega
  have fa4 : ¬ 9223372036854775807 < 4 + LS.length + 1 + LF1.length + 1 + LF2.length := by omega
  have fa5 : ¬ 9223372036854775807 < 4 + LS.length + 1 + LF1.length + 1 + LF2.length + 1 := by omega
  have fa6 : ¬ 9223372036854775807 < 4 + LS.length + 1 + LF1.length + 1 + LF2.length + 1 + LR1.length := by omega
  have fa7 : ¬ 9223372036854775807 < 4 + LS.length + 1 + LF1.length + 1 + LF2.length + 1 + LR1.length + 1 := by omega
  have fa8 : ¬ 9223372036854775807 < 4 + LS.length + 1 + LF1.length + 1 + LF2.length + 1 + LR1.length + 1 + LR2.length := by omega
  have fa9 : ¬ 9223372036854775807 < 4 + LS.length + 1 + LF1.length + 1 + LF2.length + 1 + LR1.length + 1 + LR2.length + 1 := by omega
  clear bS bF1 bF2 bR1 bR2
  go_wp2
  refine wp_region_grow [5] [4] (by kernel_rfl) (by kernel_rfl) (by kernel_rfl) ?_
  apply Exists.intro
  iterate 4 (apply lh_o; kernel_rfl; kernel_rfl; kernel_rfl; (intro W hW; have hWc := Grow.cells hW; go_simp; exact ⟨OneV.mk _, Grow.refl _⟩))
  (apply lh_new; kernel_rfl; kernel_rfl; kernel_rfl; (intro W hW; have hWc := Grow.cells hW; go_simp; exact ⟨NewAt.mk _ _ _ _, Grow.alloc _ _⟩); intro g hfr)
  (apply lh_h; kernel_rfl; kernel_rfl; kernel_rfl; (intro W hW; go_simp; first | exact gB (K1.out _ _ hW.1 hW.2) | exact gV (K1.out _ _ hW.1 hW.2)))
  iterate 4 (apply lh_o; kernel_rfl; kernel_rfl; kernel_rfl; (intro W hW; have hWc := Grow.cells hW; go_simp; exact ⟨OneV.mk _, Grow.refl _⟩))
  (apply lh_o; kernel_rfl; kernel_rfl; kernel_rfl; (intro W hW; go_simp; first | exact gB (KF1.out _ hW) | exact gV (KF1.out _ hW)))
  iterate 4 (apply lh_o; kernel_rfl; kernel_rfl; kernel_rfl; (intro W hW; have hWc := Grow.cells hW; go_simp; exact ⟨OneV.mk _, Grow.refl _⟩))
  (apply lh_o; kernel_rfl; kernel_rfl; kernel_rfl; (intro W hW; go_simp; first | exact gB (KF2.out _ hW) | exact gV (KF2.out _ hW)))
  iterate 4 (apply lh_o; kernel_rfl; kernel_rfl; kernel_rfl; (intro W hW; have hWc := Grow.cells hW; go_simp; exact ⟨OneV.mk _, Grow.refl _⟩))
  (apply lh_o; kernel_rfl; kernel_rfl; kernel_rfl; (intro W hW; go_simp; first | exact gB (KR1.out _ hW) | exact gV (KR1.out _ hW)))
  iterate 4 (apply lh_o; kernel_rfl; kernel_rfl; kernel_rfl; (intro W hW; have hWc := Grow.cells hW; go_simp; exact ⟨OneV.mk _, Grow.refl _⟩))
  (apply lh_o; kernel_rfl; kernel_rfl; kernel_rfl; (intro W hW; go_simp; first | exact gB (KR2.out _ hW) | exact gV (KR2.out _ hW)))
  iterate 3 (apply lh_o; kernel_rfl; kernel_rfl; kernel_rfl; (intro W hW; have hWc := Grow.cells hW; go_simp; exact ⟨OneV.mk _, Grow.refl _⟩))
  (refine lh_nil ?_; intro W hW; simp only [Act.put, List.setIfInBounds_toArray, List.set_cons_succ, List.set_cons_zero])
  have bE := BW.out.trans (Below.mono hW.1 BW.out.size)
  go_wp2
  go_ret
  exact ⟨by rw [← HR.out]; rfl, bE⟩
end Go.Proofs.YtbdanadmabemdaaDoor
