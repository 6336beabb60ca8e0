
/-
The text of a filter: the program.
-/
import Derived.Test.YtbdanadmabemdaaDoorHe
import Derived.Test.YtbdanadmabemdaaDoorDg
namespace Go.Proofs.YtbdanadmabemdaaDoor
open Go Go.RowKit Fl
theorem c_fmt (n : Int) (h0 : -9223372036854775808 ≤ n) (h1 : n ≤ 9223372036854775807) (w : World) (hT : Tb w) : Calls Tryd.prog 60 #[.int .i64 n, .int .i64 10] w (RetS (Lib.itoa n) w) := by
  refine (Tryd.strconv_FormatInt_10 n h0 h1 w hT.tab).mono ?_
  rintro e w' ⟨rfl, k, os, rfl⟩
  exact ⟨rfl, below_os _ _ _⟩
/-- the text of a filter -/
def filtL (k : Int) (cs ss : List Nat) : List UInt8 := [102, 105, 108, 116, 101, 114, 32] ++ (Lib.itoa k ++ ([32] ++ ((txtL cs).tail ++ ([32] ++ (txtL ss).tail))))
theorem c_FilterText (k : Int) (c0 c1 c2 s0 s1 : Nat) (w : World) (hk0 : -9223372036854775808 ≤ k) (hk1 : k ≤ 9223372036854775807) (h0 : c0 < 4294967296) (h1 : c1 < 4294967296) (h2 : c2 < 4294967296) (h3 : s0 < 4294967296) (h4 : s1 < 4294967296) (hT : Tb w)
    (ho : okF k [c0, c1, c2] [s0, s1] = true) :
    Calls Tryd.prog 28 #[.agg #[.int .i64 k, .float .f32 c0, .float .f32 c1, .float .f32 c2, .float .f32 s0, .float .f32 s1]] w (RetS (filtL k [c0, c1, c2] [s0, s1]) w) := by
  have HR0 : (⟨#[102, 105, 108, 116, 101, 114, 32]⟩ : ByteArray) ++ ⟨(Lib.itoa k).toArray⟩ ++ ⟨#[32]⟩ ++ ⟨(txtL [c0, c1, c2]).tail.toArray⟩ ++ ⟨#[32]⟩ ++ ⟨(txtL [s0, s1]).tail.toArray⟩ = ⟨(filtL k [c0, c1, c2] [s0, s1]).toArray⟩ := by
    rw [show (⟨#[32]⟩ : ByteArray) = ⟨([32] : List UInt8).toArray⟩ from rfl, show (⟨#[102, 105, 108, 116, 101, 114, 32]⟩ : ByteArray) = ⟨([102, 105, 108, 116, 101, 114, 32] : List UInt8).toArray⟩ from rfl]
    simp only [ba_app]
    unfold filtL
    simp only [List.append_assoc]
  have HR := Lib.hid HR0
  have HV : Hid (∀ W, Calls Tryd.prog 59 #[.agg #[.int .i64 k, .float .f32 c0, .float .f32 c1, .float .f32 c2, .float .f32 s0, .float .f32 s1]] W (RetBA true W)) := fun W => by
    have := c_ValidFilter k c0 c1 c2 s0 s1 W
    rw [ho] at this
    exact this
  have HT := Lib.hid hT
  have nC : ∀ i, nth [c0, c1, c2] i < 4294967296 := fun i => by
    match i with
    | 0 => exact h0
    | 1 => exact h1
    | 2 => exact h2
    | i + 3 => exact Nat.zero_lt_of_lt h0
  have nS : ∀ i, nth [s0, s1] i < 4294967296 := fun i => by
    match i with
    | 0 => exact h3
    | 1 => exact h4
    | i + 2 => exact Nat.zero_lt_of_lt h0
  have NC := Lib.hid nC
  have NS := Lib.hid nS
  have HK := Lib.hid (And.intro hk0 hk1)
  clear HR0 ho hT nC nS h0 h1 h2 h3 h4 hk0 hk1
  go_enter Tryd.func28, Tryd.ntmps28
  go_wp2_with fail
  refine (HV.out _).mono ?_
  rintro e w1 ⟨rfl, hb1⟩
  have kA : w1.heap[w.heap.size]? = some (.cells #[.int .i64 k, .float .f32 c0, .float .f32 c1, .float .f32 c2, .float .f32 s0, .float .f32 s1] 35) := (hb1.block _ (by simp)).trans (MapKept.heap_alloc w _).1
  have bW : Below w.heap.size w w1 := Below.trans (by (repeat (first | (with_reducible refine Below.drewN ?_) | (with_reducible refine Below.drew ?_) | ((with_reducible refine Below.alloc ?_ ?_ _); rotate_left; (first | omega | (simp <;> omega))) | ((with_reducible refine Below.setCell ?_ ?_ _); rotate_left; (first | omega | (simp <;> omega))) | (with_reducible exact Below.refl _ _) | (with_reducible assumption)))) (hb1.mono (by simp))
  have zW : w.heap.size < w1.heap.size := (Array.getElem?_eq_some_iff.1 kA).1
  have k0 : w1.cell? ⟨w.heap.size, 0, none⟩ = some (.int .i64 k) := cell_of kA 0 rfl
  have k1 : w1.cell? ⟨w.heap.size, 1, none⟩ = some (.float .f32 c0) := cell_of kA 1 rfl
  have k2 : w1.cell? ⟨w.heap.size, 2, none⟩ = some (.float .f32 c1) := cell_of kA 2 rfl
  have k3 : w1.cell? ⟨w.heap.size, 3, none⟩ = some (.float .f32 c2) := cell_of kA 3 rfl
  have k4 : w1.cell? ⟨w.heap.size, 4, none⟩ = some (.float .f32 s0) := cell_of kA 4 rfl
  have k5 : w1.cell? ⟨w.heap.size, 5, none⟩ = some (.float .f32 s1) := cell_of kA 5 rfl
  have FC : Hid (FS w1 (some ⟨w.heap.size, 1, none⟩) 3 3 [c0, c1, c2]) := ⟨rfl, Nat.le_refl _, by omega, fun _ => ⟨_, _, rfl, zW, fun i hi => by
    have : i = 0 ∨ i = 1 ∨ i = 2 := by omega
    rcases this with rfl | rfl | rfl
    · exact k1
    · exact k2
    · exact k3⟩⟩
  have FS' : Hid (FS w1 (some ⟨w.heap.size, 4, none⟩) 2 2 [s0, s1]) := ⟨rfl, Nat.le_refl _, by omega, fun _ => ⟨_, _, rfl, zW, fun i hi => by
    have : i = 0 ∨ i = 1 := by omega
    rcases this with rfl | rfl
    · exact k4
    · exact k5⟩⟩
  have BW := Lib.hid bW
  clear hb1 kA bW k1 k2 k3 k4 k5 HV
  have D1 : Hid (∀ W, Below w1.heap.size w1 W → Calls Tryd.prog 60 #[.int .i64 k, .int .i64 10] W (RetS (Lib.itoa k) W)) := fun W hW => c_fmt k HK.out.1 HK.out.2 W (HT.out.below (B := w.heap.size) (BW.out.trans (hW.mono BW.out.size)) (Nat.le_refl _))
  have S1 : Hid (∀ W, Below w1.heap.size w1 W → Calls Tryd.prog 27 #[.slice (some ⟨w.heap.size, 1, none⟩) 3 3] W (RetS (txtL [c0, c1, c2]).tail W)) := fun W hW => c_samplesText _ 3 3 _ W (FC.out.below hW (Nat.le_refl _)) NC.out (by omega) (HT.out.below (B := w.heap.size) (BW.out.trans (hW.mono BW.out.size)) (Nat.le_refl _))
  have S2 : Hid (∀ W, Below w1.heap.size w1 W → Calls Tryd.prog 27 #[.slice (some ⟨w.heap.size, 4, none⟩) 2 2] W (RetS (txtL [s0, s1]).tail W)) := fun W hW => c_samplesText _ 2 2 _ W (FS'.out.below hW (Nat.le_refl _)) NS.out (by omega) (HT.out.below (B := w.heap.size) (BW.out.trans (hW.mono BW.out.size)) (Nat.le_refl _))
  have bA : (Lib.itoa k).length ≤ 100 := itoa_len _ HK.out.1 HK.out.2
  have bC : (txtL [c0, c1, c2]).tail.length ≤ 100 := by rw [List.length_tail, txt_len]; simp
  have bS : (txtL [s0, s1]).tail.length ≤ 100 := by rw [List.length_tail, txt_len]; simp
  generalize Lib.itoa k = LA at *
  generalize (txtL [c0, c1, c2]).tail = LC at *
  generalize (txtL [s0, s1]).tail = LS at *
  generalize filtL k [c0, c1, c2] [s0, s1] = LR at *
  have f1 : ¬ 9223372036854775807 < 7 + LA.length := by omega
  have f2 : ¬ 9223372036854775807 < 7 + LA.length + 1 := by omega
  have f3 : ¬ 9223372036854775807 < 7 + LA.length + 1 + LC.length := by omega
  have f4 : ¬ 9223372036854775807 < 7 + LA.length + 1 + LC.length + 1 := by omega
  have f5 : ¬ 9223372036854775807 < 7 + LA.length + 1 + LC.length + 1 + LS.length := by omega
  clear bA bC bS
  go_wp2
  refine wp_region_grow [] [] (by kernel_rfl) (by kernel_rfl) (by kernel_rfl) ?_
  apply Exists.intro
  iterate 2 (apply lh_o; kernel_rfl; kernel_rfl; kernel_rfl; (intro W hW; have hWc := Grow.cells hW; go_simp; exact ⟨OneV.mk _, Grow.refl _⟩))
  (apply lh_o; kernel_rfl; kernel_rfl; kernel_rfl; (intro W hW; go_simp; first | exact gB (D1.out _ hW) | exact gV (D1.out _ hW)))
  iterate 4 (apply lh_o; kernel_rfl; kernel_rfl; kernel_rfl; (intro W hW; have hWc := Grow.cells hW; go_simp; exact ⟨OneV.mk _, Grow.refl _⟩))
  (apply lh_o; kernel_rfl; kernel_rfl; kernel_rfl; (intro W hW; go_simp; first | exact gB (S1.out _ hW) | exact gV (S1.out _ hW)))
  iterate 4 (apply lh_o; kernel_rfl; kernel_rfl; kernel_rfl; (intro W hW; have hWc := Grow.cells hW; go_simp; exact ⟨OneV.mk _, Grow.refl _⟩))
  (apply lh_o; kernel_rfl; kernel_rfl; kernel_rfl; (intro W hW; go_simp; first | exact gB (S2.out _ hW) | exact gV (S2.out _ hW)))
  iterate 2 (apply lh_o; kernel_rfl; kernel_rfl; kernel_rfl; (intro W hW; have hWc := Grow.cells hW; go_simp; exact ⟨OneV.mk _, Grow.refl _⟩))
  (refine lh_nil ?_; intro W hW; simp only [Act.put, List.setIfInBounds_toArray, List.set_cons_succ, List.set_cons_zero])
  have hbE := BW.out.trans (Below.mono hW BW.out.size)
  go_wp2
  go_ret
  exact ⟨by rw [← HR.out]; rfl, hbE⟩
end Go.Proofs.YtbdanadmabemdaaDoor
