
/-
The texts of numbers and of rings: the program.
-/
import Derived.Test.YtbdanadmabemdaaDoorHd
import Derived.Test.YtbdanadmabemdaaDoorSl
namespace Go.Proofs.YtbdanadmabemdaaDoor
open Go Go.RowKit Fl
theorem below_os (w : World) (k : Nat) (os : Array Obj) : Below w.heap.size w (Sort.grow (w.drewN k) os) := by
  refine ⟨rfl, rfl, rfl, ?_, fun i hi => ?_⟩
  · show w.heap.size ≤ (w.heap ++ os).size
    rw [Array.size_append]; omega
  · show (w.heap ++ os)[i]? = w.heap[i]?
    rw [Array.getElem?_append_left hi]
theorem c_decimal (n : Int) (h0 : -9223372036854775808 ≤ n) (h1 : n ≤ 9223372036854775807) (w : World) (hT : Tb w) : Calls Tryd.prog 61 #[.int .i64 n] w (RetS (Lib.itoa n) w) := by
  have C := Lib.hid (Tryd.strconv_FormatInt_10 n h0 h1 w hT.tab)
  clear h0 h1 hT
  generalize Lib.itoa n = LL at *
  go_enter Tryd.func61, Tryd.ntmps61
  go_wp2_with fail
  refine C.out.mono ?_
  rintro e w' ⟨rfl, k, os, rfl⟩
  go_wp2
  go_ret
  exact ⟨rfl, below_os _ _ _⟩
theorem dec_len (u : Nat) : ∀ k, u < 10 ^ (k + 1) → (Lib.decDigits u).length ≤ k + 1
  | 0, h => by
    unfold Lib.decDigits
    rw [dif_pos (by simpa using h)]
    simp
  | k + 1, h => by
    unfold Lib.decDigits
    split
    · simp
    · have h2 : u / 10 < 10 ^ (k + 1) := by
        rw [Nat.div_lt_iff_lt_mul (by omega), ← Nat.pow_succ]
        exact h
      have := dec_len (u / 10) k h2
      rw [List.length_append]
      simp
      omega
theorem itoa_len (z : Int) (h0 : -9223372036854775808 ≤ z) (h1 : z ≤ 9223372036854775807) : (Lib.itoa z).length ≤ 100 := by
  unfold Lib.itoa
  split
  · have := dec_len z.natAbs 19 (by omega)
    rw [List.length_cons]
    omega
  · have := dec_len z.toNat 19 (by omega)
    omega
theorem itoa_nat (n : Nat) : Lib.itoa (n : Int) = Lib.decDigits n := by
  unfold Lib.itoa
  rw [if_neg (by omega), Int.toNat_natCast]
theorem c_len (a : Option Addr) (n c : Nat) (w : World) : Calls Tryd.prog 62 #[.slice a n c] w (RetV (.int .i64 (n : Int)) w) := by
  go_enter Tryd.func62, Tryd.ntmps62
  go_wp2
  go_ret
  exact ⟨rfl, Below.refl _ _⟩
/-- the text of a ring -/
def ringL (n : Nat) (i : Int) (xs : List Nat) : List UInt8 := Lib.itoa n ++ ([32] ++ (Lib.itoa i ++ ([32] ++ (txtL xs).tail)))
theorem c_ringText (a : Option Addr) (n c : Nat) (xs : List Nat) (i : Int) (w : World) (h : FS w a n c xs) (hx' : ∀ i, nth xs i < 4294967296) (hn : n ≤ 100000) (h0 : -9223372036854775808 ≤ i) (h1 : i ≤ 9223372036854775807) (hT : Tb w) :
    Calls Tryd.prog 29 #[.agg #[.slice a n c, .int .i64 i]] w (RetS (ringL n i xs) w) := by
  have HR0 : (⟨(Lib.itoa (n : Int)).toArray⟩ : ByteArray) ++ ⟨#[32]⟩ ++ ⟨(Lib.itoa i).toArray⟩ ++ ⟨#[32]⟩ ++ ⟨(txtL xs).tail.toArray⟩ = ⟨(ringL n i xs).toArray⟩ := by
    rw [show (⟨#[32]⟩ : ByteArray) = ⟨([32] : List UInt8).toArray⟩ from rfl]
    simp only [ba_app]
    unfold ringL
    simp only [List.append_assoc]
  have HR := Lib.hid HR0
  have H := Lib.hid h
  have HT := Lib.hid hT
  have HX := Lib.hid hx'
  have HI := Lib.hid (And.intro h0 h1)
  clear h hT hx' h0 h1 HR0
  go_enter Tryd.func29, Tryd.ntmps29
  go_upto_region 1 with fail
  refine wp_name ?_
  intro w0 hW0
  have kA : w0.heap[w.heap.size]? = some (.cells #[.slice a n c, .int .i64 i] 34) := by rw [hW0]; exact (MapKept.heap_alloc w _).1
  have k0 : w0.cell? ⟨w.heap.size, 0, none⟩ = some (.slice a n c) := cell_of kA 0 rfl
  have k1 : w0.cell? ⟨w.heap.size, 1, none⟩ = some (.int .i64 i) := cell_of kA 1 rfl
  have bW : Below w.heap.size w w0 := by rw [hW0]; (repeat (first | (with_reducible refine Below.drewN ?_) | (with_reducible refine Below.drew ?_) | ((with_reducible refine Below.alloc ?_ ?_ _); rotate_left; (first | omega | (simp <;> omega))) | ((with_reducible refine Below.setCell ?_ ?_ _); rotate_left; (first | omega | (simp <;> omega))) | (with_reducible exact Below.refl _ _) | (with_reducible assumption)))
  have zW : w.heap.size < w0.heap.size := (Array.getElem?_eq_some_iff.1 kA).1
  have BW := Lib.hid bW
  clear hW0 kA bW
  have D1 : Hid (∀ W, Below w0.heap.size w0 W → Calls Tryd.prog 61 #[.int .i64 (n : Int)] W (RetS (Lib.itoa n) W)) := fun W hW => c_decimal n (by omega) (by omega) W (HT.out.below (B := w.heap.size) (BW.out.trans (hW.mono BW.out.size)) (Nat.le_refl _))
  have D2 : Hid (∀ W, Below w0.heap.size w0 W → Calls Tryd.prog 61 #[.int .i64 i] W (RetS (Lib.itoa i) W)) := fun W hW => c_decimal i HI.out.1 HI.out.2 W (HT.out.below (B := w.heap.size) (BW.out.trans (hW.mono BW.out.size)) (Nat.le_refl _))
  have S : Hid (∀ W, Below w0.heap.size w0 W → Calls Tryd.prog 27 #[.slice a n c] W (RetS (txtL xs).tail W)) := fun W hW => c_samplesText a n c xs W (H.out.below (B := w.heap.size) (BW.out.trans (hW.mono BW.out.size)) (Nat.le_refl _)) HX.out hn (HT.out.below (B := w.heap.size) (BW.out.trans (hW.mono BW.out.size)) (Nat.le_refl _))
  have bA : (Lib.itoa (n : Int)).length ≤ 100 := itoa_len _ (by omega) (by omega)
  have bB : (Lib.itoa i).length ≤ 100 := itoa_len _ HI.out.1 HI.out.2
  have bT : (txtL xs).tail.length ≤ 900000 := by rw [List.length_tail, txt_len, H.out.len]; omega
  generalize Lib.itoa (n : Int) = LA at *
  generalize Lib.itoa i = LB at *
  generalize (txtL xs).tail = LT at *
  generalize ringL n i xs = LR at *
  have f1 : ¬ 9223372036854775807 < LA.length + 1 := by omega
  have f2 : ¬ 9223372036854775807 < LA.length + 1 + LB.length := by omega
  have f3 : ¬ 9223372036854775807 < LA.length + 1 + LB.length + 1 := by omega
  have f4 : ¬ 9223372036854775807 < LA.length + 1 + LB.length + 1 + LT.length := by omega
  clear bA bB bT
  refine wp_region_grow [] [] (by kernel_rfl) (by kernel_rfl) (by kernel_rfl) ?_
  apply Exists.intro
  iterate 2 (apply lh_o; kernel_rfl; kernel_rfl; kernel_rfl; (intro W hW; have hWc := Grow.cells hW; go_simp; exact ⟨OneV.mk _, Grow.refl _⟩))
  (apply lh_o; kernel_rfl; kernel_rfl; kernel_rfl; (intro W hW; go_simp; first | exact gB (c_len _ _ _ _) | exact gV (c_len _ _ _ _)))
  (apply lh_o; kernel_rfl; kernel_rfl; kernel_rfl; (intro W hW; go_simp; first | exact gB (D1.out _ hW) | exact gV (D1.out _ hW)))
  iterate 3 (apply lh_o; kernel_rfl; kernel_rfl; kernel_rfl; (intro W hW; have hWc := Grow.cells hW; go_simp; exact ⟨OneV.mk _, Grow.refl _⟩))
  (apply lh_o; kernel_rfl; kernel_rfl; kernel_rfl; (intro W hW; go_simp; first | exact gB (D2.out _ hW) | exact gV (D2.out _ hW)))
  iterate 4 (apply lh_o; kernel_rfl; kernel_rfl; kernel_rfl; (intro W hW; have hWc := Grow.cells hW; go_simp; exact ⟨OneV.mk _, Grow.refl _⟩))
  (apply lh_o; kernel_rfl; kernel_rfl; kernel_rfl; (intro W hW; go_simp; first | exact gB (S.out _ hW) | exact gV (S.out _ hW)))
  iterate 2 (apply lh_o; kernel_rfl; kernel_rfl; kernel_rfl; (intro W hW; have hWc := Grow.cells hW; go_simp; exact ⟨OneV.mk _, Grow.refl _⟩))
  (refine lh_nil ?_; intro W hW; simp only [Act.put, List.setIfInBounds_toArray, List.set_cons_succ, List.set_cons_zero])
  go_wp2
  go_ret
  exact ⟨by rw [← HR.out]; rfl, BW.out.trans (hW.mono BW.out.size)⟩
end Go.Proofs.YtbdanadmabemdaaDoor
