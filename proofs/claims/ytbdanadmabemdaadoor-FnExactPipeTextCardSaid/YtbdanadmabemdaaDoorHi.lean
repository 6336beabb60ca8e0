
/-
The line of a ring: the reference.
-/
import Derived.Test.YtbdanadmabemdaaDoorHh
namespace Go.Proofs.YtbdanadmabemdaaDoor
open Go Go.RowKit Fl
/-- the line of a ring -/
def lineL (n i : Nat) (xs : List Nat) : List UInt8 := Lib.decDigits n ++ ([32] ++ (Lib.decDigits i ++ (txtL xs ++ [10])))
theorem c_l04Line (b o : Nat) (a : Option Addr) (n c i : Nat) (xs : List Nat) (w : World) (hb : b < w.heap.size) (k0 : w.cell? ⟨b, o, none⟩ = some (.slice a n c)) (k1 : w.cell? ⟨b, o + 1, none⟩ = some (.int .i64 (i : Int))) (h : FS w a n c xs) (hx' : ∀ i, nth xs i < 4294967296) (hn : n ≤ 100000) (hi : i ≤ 9223372036854775807) :
    Calls Tryd.prog 52 #[.pointer (some ⟨b, o, none⟩)] w (RetS (lineL n i xs) w) := by
  have HR0 : (⟨(Lib.decDigits n).toArray⟩ : ByteArray) ++ ⟨#[32]⟩ ++ ⟨(Lib.decDigits i).toArray⟩ ++ ⟨(txtL xs).toArray⟩ ++ ⟨#[10]⟩ = ⟨(lineL n i xs).toArray⟩ := by
    rw [show (⟨#[32]⟩ : ByteArray) = ⟨([32] : List UInt8).toArray⟩ from rfl, show (⟨#[10]⟩ : ByteArray) = ⟨([10] : List UInt8).toArray⟩ from rfl]
    simp only [ba_app]
    unfold lineL
    simp only [List.append_assoc]
  have HR := Lib.hid HR0
  have H := Lib.hid h
  have HX := Lib.hid hx'
  have hn63 : n ≤ 9223372036854775807 := by omega
  have bA : (Lib.decDigits n).length ≤ 100 := by have := dec_len n 19 (by omega); omega
  have bB : (Lib.decDigits i).length ≤ 100 := by have := dec_len i 19 (by omega); omega
  have bT : (txtL xs).length ≤ 900000 := by rw [txt_len, h.len]; omega
  have D1 : Hid (∀ W, Calls Tryd.prog 78 #[.int .i64 (n : Int)] W (RetS (Lib.decDigits n) W)) := fun W => c_Decimal 19 n (by omega) (by omega) hn63 W
  have D2 : Hid (∀ W, Calls Tryd.prog 78 #[.int .i64 (i : Int)] W (RetS (Lib.decDigits i) W)) := fun W => c_Decimal 19 i (by omega) (by omega) hi W
  have S : Hid (∀ W, Below w.heap.size w W → Calls Tryd.prog 50 #[.slice a n c] W (RetS (txtL xs) W)) := fun W hW => c_l04Samples a n c xs W (H.out.below hW (Nat.le_refl _)) HX.out hn
  clear h hx' HR0
  generalize Lib.decDigits n = LA at *
  generalize Lib.decDigits i = LB at *
  generalize txtL xs = LT at *
  generalize lineL n i xs = LR at *
  have f1 : ¬ 9223372036854775807 < LA.length + 1 := by omega
  have f2 : ¬ 9223372036854775807 < LA.length + 1 + LB.length := by omega
  have f3 : ¬ 9223372036854775807 < LA.length + 1 + LB.length + LT.length := by omega
  have f4 : ¬ 9223372036854775807 < LA.length + 1 + LB.length + LT.length + 1 := by omega
  clear bA bB bT
  go_enter Tryd.func52, Tryd.ntmps52
  go_wp2
  refine wp_region_grow [] [] (by kernel_rfl) (by kernel_rfl) (by kernel_rfl) ?_
  apply Exists.intro
  iterate 5 (apply lh_o; kernel_rfl; kernel_rfl; kernel_rfl; (intro W hW; have hWc := Grow.cells hW; go_simp; exact ⟨OneV.mk _, Grow.refl _⟩))
  (apply lh_o; kernel_rfl; kernel_rfl; kernel_rfl; (intro W hW; go_simp; first | exact gB (D1.out _) | exact gV (D1.out _)))
  iterate 5 (apply lh_o; kernel_rfl; kernel_rfl; kernel_rfl; (intro W hW; have hWc := Grow.cells hW; go_simp; exact ⟨OneV.mk _, Grow.refl _⟩))
  (apply lh_o; kernel_rfl; kernel_rfl; kernel_rfl; (intro W hW; go_simp; first | exact gB (D2.out _) | exact gV (D2.out _)))
  iterate 5 (apply lh_o; kernel_rfl; kernel_rfl; kernel_rfl; (intro W hW; have hWc := Grow.cells hW; go_simp; exact ⟨OneV.mk _, Grow.refl _⟩))
  (apply lh_o; kernel_rfl; kernel_rfl; kernel_rfl; (intro W hW; go_simp; first | exact gB (S.out _ hW) | exact gV (S.out _ hW)))
  iterate 3 (apply lh_o; kernel_rfl; kernel_rfl; kernel_rfl; (intro W hW; have hWc := Grow.cells hW; go_simp; exact ⟨OneV.mk _, Grow.refl _⟩))
  (refine lh_nil ?_; intro W hW; simp only [Act.put, List.setIfInBounds_toArray, List.set_cons_succ, List.set_cons_zero])
  have hbE : Below w.heap.size w W := hW
  go_wp2
  go_ret
  exact ⟨by rw [← HR.out]; rfl, hbE⟩
end Go.Proofs.YtbdanadmabemdaaDoor
