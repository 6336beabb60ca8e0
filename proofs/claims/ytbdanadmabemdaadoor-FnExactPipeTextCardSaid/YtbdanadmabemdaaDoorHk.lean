
/-
The text of a filter: the reference.
-/
import Derived.Test.YtbdanadmabemdaaDoorHi
import Derived.Test.YtbdanadmabemdaaDoorHj
namespace Go.Proofs.YtbdanadmabemdaaDoor
open Go Go.RowKit Fl
theorem fs_tail (k : Nat) (c0 c1 c2 s0 s1 : Nat) : ([102, 105, 108, 116, 101, 114, 32] ++ Lib.decDigits k) ++ txtL [c0, c1, c2] ++ ([32] ++ hx s0) ++ ([32] ++ hx s1) = filtL k [c0, c1, c2] [s0, s1] := by
  unfold filtL
  rw [itoa_nat]
  unfold txtL Lib.joinTail
  simp [List.append_assoc]
set_option maxHeartbeats 1000000 in
theorem c_sFilterText (k : Nat) (c0 c1 c2 s0 s1 : Nat) (w : World) (hk : k < 10) (h0 : c0 < 4294967296) (h1 : c1 < 4294967296) (h2 : c2 < 4294967296) (h3 : s0 < 4294967296) (h4 : s1 < 4294967296)
    (ho : okF k [c0, c1, c2] [s0, s1] = true) :
    Calls Tryd.prog 51 #[.agg #[.int .i64 (k : Int), .float .f32 c0, .float .f32 c1, .float .f32 c2, .float .f32 s0, .float .f32 s1]] w (RetS (filtL k [c0, c1, c2] [s0, s1]) w) := by
  have HR := Lib.hid (fs_tail k c0 c1 c2 s0 s1)
  have HO := Lib.hid ho
  have nC : ∀ i, nth [c0, c1, c2] i < 4294967296 := fun i => by
    match i with
    | 0 => exact h0
    | 1 => exact h1
    | 2 => exact h2
    | i + 3 => exact Nat.zero_lt_of_lt h0
  have D1 : Hid (∀ W, Calls Tryd.prog 78 #[.int .i64 (k : Int)] W (RetS (Lib.decDigits k) W)) := fun W => c_Decimal 19 k (by omega) (by omega) (by omega) W
  have HC : Hid (∀ j W, Calls Tryd.prog 77 #[.float .f32 (nth [c0, c1, c2] j)] W (RetS (hexL (can .f32 (nth [c0, c1, c2] j))) W)) := fun j W => c_l01Hex _ W (can_lt (nC j))
  have E1 : Hid (∀ W, Calls Tryd.prog 77 #[.float .f32 s0] W (RetS (hx s0) W)) := fun W => c_l01Hex _ W (can_lt h3)
  have E2 : Hid (∀ W, Calls Tryd.prog 77 #[.float .f32 s1] W (RetS (hx s1) W)) := fun W => c_l01Hex _ W (can_lt h4)
  have bA : (Lib.decDigits k).length ≤ 100 := by have := dec_len k 19 (by omega); omega
  have l3 : (hx s0).length = 8 := rfl
  have l4 : (hx s1).length = 8 := rfl
  clear ho nC h0 h1 h2 h3 h4
  go_enter Tryd.func51, Tryd.ntmps51
  go_wp2_with fail
  refine (c_l02Ok w.heap.size 0 k [c0, c1, c2] [s0, s1] _ (by simp) (three _ (by simp [nth]) (by simp [nth]) (by simp [nth])) (two _ (by simp [nth]) (by simp [nth]))).mono ?_
  rw [HO.out]
  rintro e w1 ⟨rfl, m1, hw1⟩
  have kA : w1.heap[w.heap.size]? = some (.cells #[.int .i64 (k : Int), .float .f32 c0, .float .f32 c1, .float .f32 c2, .float .f32 s0, .float .f32 s1] 35) := by rw [hw1]; exact (MapKept.heap_alloc w _).1
  have bW : Below w.heap.size w w1 := by rw [hw1]; (repeat (first | (with_reducible refine Below.drewN ?_) | (with_reducible refine Below.drew ?_) | ((with_reducible refine Below.alloc ?_ ?_ _); rotate_left; (first | omega | (simp <;> omega))) | ((with_reducible refine Below.setCell ?_ ?_ _); rotate_left; (first | omega | (simp <;> omega))) | (with_reducible exact Below.refl _ _) | (with_reducible assumption)))
  have zW : w.heap.size < w1.heap.size := (Array.getElem?_eq_some_iff.1 kA).1
  have k0 : w1.cell? ⟨w.heap.size, 0, none⟩ = some (.int .i64 (k : Int)) := cell_of kA 0 rfl
  have HCL0 : ∀ j, j < 3 → w1.cell? ⟨w.heap.size, 1 + j, none⟩ = some (.float .f32 (nth [c0, c1, c2] j)) := fun j hj => by
    have : j = 0 ∨ j = 1 ∨ j = 2 := by omega
    rcases this with rfl | rfl | rfl
    · exact cell_of kA 1 rfl
    · exact cell_of kA 2 rfl
    · exact cell_of kA 3 rfl
  have HCL := Lib.hid HCL0
  have k4 : w1.cell? ⟨w.heap.size, 4, none⟩ = some (.float .f32 s0) := cell_of kA 4 rfl
  have k5 : w1.cell? ⟨w.heap.size, 5, none⟩ = some (.float .f32 s1) := cell_of kA 5 rfl
  have BW := Lib.hid bW
  clear hw1 kA bW HCL0
  have HP : Hid ((⟨#[102, 105, 108, 116, 101, 114, 32]⟩ : ByteArray) ++ ⟨(Lib.decDigits k).toArray⟩ = ⟨([102, 105, 108, 116, 101, 114, 32] ++ Lib.decDigits k).toArray⟩) := by
    show _ = _
    rw [show (⟨#[102, 105, 108, 116, 101, 114, 32]⟩ : ByteArray) = ⟨([102, 105, 108, 116, 101, 114, 32] : List UInt8).toArray⟩ from rfl, ba_app]
  have bP : ([102, 105, 108, 116, 101, 114, 32] ++ Lib.decDigits k).length ≤ 110 := by rw [List.length_append]; simp; omega
  generalize ([102, 105, 108, 116, 101, 114, 32] ++ Lib.decDigits k) = LP at *
  generalize Lib.decDigits k = LA at *
  have f1 : ¬ 9223372036854775807 < 7 + LA.length := by omega
  go_wp2_with fail
  refine (D1.out _).mono ?_
  rintro e w2 ⟨rfl, hb2⟩
  have B2 := Lib.hid hb2
  have k4' := (hb2.cell (p := ⟨w.heap.size, 4, none⟩) zW).trans k4
  have k5' := (hb2.cell (p := ⟨w.heap.size, 5, none⟩) zW).trans k5
  have HCL2 : Hid (∀ j, j < 3 → w2.cell? ⟨w.heap.size, 1 + j, none⟩ = some (.float .f32 (nth [c0, c1, c2] j))) := fun j hj => (hb2.cell (p := ⟨w.heap.size, 1 + j, none⟩) zW).trans (HCL.out j hj)
  have zW2 : w.heap.size < w2.heap.size := Nat.lt_of_lt_of_le zW hb2.size
  clear k4 k5 HCL hb2 k0
  go_wp2
  go_loopw [3, 4] (fun v i wr => ∃ j : Nat, j ≤ 3 ∧ i = .int .i64 j ∧ v = .string ⟨(LP ++ txtL ([c0, c1, c2].take j)).toArray⟩ ∧ Below w2.heap.size w2 wr) (fun _ i _ => 3 - (intOf i).toNat)
  case atStart => exact ⟨0, by omega, rfl, by rw [show txtL ([c0, c1, c2].take 0) = [] from rfl, List.append_nil, ← HP.out], Below.refl _ _⟩
  case round =>
    obtain ⟨j, hj, rfl, rfl, hbe⟩ := hrel
    have HBE := Lib.hid hbe
    have hlen : (LP ++ txtL ([c0, c1, c2].take j)).length ≤ 200 := by rw [List.length_append, txt_len, List.length_take]; simp; omega
    by_cases hlt : j < 3
    · have x0 := (hbe.cell (p := ⟨w.heap.size, 1 + j, none⟩) zW2).trans (HCL2.out j hlt)
      have hs := txt_succ (xs := [c0, c1, c2]) (k := j) hlt
      have h8 : (hexL (can .f32 (nth [c0, c1, c2] j))).length = 8 := rfl
      have C := Lib.hid (HC.out j)
      have HS : Hid ((⟨(LP ++ txtL ([c0, c1, c2].take j)).toArray⟩ : ByteArray) ++ (⟨#[32]⟩ ++ ⟨(hexL (can .f32 (nth [c0, c1, c2] j))).toArray⟩) = ⟨(LP ++ txtL ([c0, c1, c2].take (j + 1))).toArray⟩) := by
        show _ = _
        rw [hs, show (⟨#[32]⟩ : ByteArray) = ⟨([32] : List UInt8).toArray⟩ from rfl, ba_app, ba_app, List.append_assoc]
      obtain ⟨LN, hLN⟩ : ∃ LN, LN = LP ++ txtL ([c0, c1, c2].take (j + 1)) := ⟨_, rfl⟩
      have HN := Lib.hid hLN
      rw [← hLN] at HS
      clear hbe hs hLN
      generalize LP ++ txtL ([c0, c1, c2].take j) = LT at *
      generalize hexL (can .f32 (nth [c0, c1, c2] j)) = LH at *
      have f2 : ¬ 9223372036854775807 < 1 + LH.length := by omega
      have f3 : ¬ 9223372036854775807 < LT.length + (1 + LH.length) := by omega
      clear hlen h8
      go_wp2_with fail
      refine (C.out _).mono ?_
      rintro e w3 ⟨rfl, hb1⟩
      have hb2 := HBE.out.trans (hb1.mono HBE.out.size)
      clear hb1
      go_wp2
      go_roundw
      case rel => exact ⟨j + 1, by omega, by go_num, by rw [HS.out, HN.out], hb2⟩
      case measure => simp [intOf]; omega
    · obtain rfl : j = 3 := by omega
      have y4 := (hbe.cell (p := ⟨w.heap.size, 4, none⟩) zW2).trans k4'
      have y5 := (hbe.cell (p := ⟨w.heap.size, 5, none⟩) zW2).trans k5'
      have zWr : w.heap.size < wr.heap.size := Nat.lt_of_lt_of_le zW2 hbe.size
      have HZ : Hid ((⟨(LP ++ txtL ([c0, c1, c2].take 3)).toArray⟩ : ByteArray) ++ ⟨#[32]⟩ ++ ⟨(hx s0).toArray⟩ ++ ⟨#[32]⟩ ++ ⟨(hx s1).toArray⟩ = ⟨(filtL k [c0, c1, c2] [s0, s1]).toArray⟩) := by
        show _ = _
        rw [← HR.out, show (⟨#[32]⟩ : ByteArray) = ⟨([32] : List UInt8).toArray⟩ from rfl]
        simp only [ba_app, List.append_assoc]
        rfl
      clear hbe k4' k5' HR HC HCL2
      generalize LP ++ txtL ([c0, c1, c2].take 3) = LT at *
      generalize hx s0 = L0 at *
      generalize hx s1 = L1 at *
      generalize filtL k [c0, c1, c2] [s0, s1] = LR at *
      have f2 : ¬ 9223372036854775807 < LT.length + 1 := by omega
      have f3 : ¬ 9223372036854775807 < LT.length + 1 + L0.length := by omega
      have f4 : ¬ 9223372036854775807 < LT.length + 1 + L0.length + 1 := by omega
      have f5 : ¬ 9223372036854775807 < LT.length + 1 + L0.length + 1 + L1.length := by omega
      clear hlen l3 l4
      go_wp2
      refine wp_region_grow [] [] (by kernel_rfl) (by kernel_rfl) (by kernel_rfl) ?_
      apply Exists.intro
      iterate 5 (apply lh_o; kernel_rfl; kernel_rfl; kernel_rfl; (intro W hW; have hWc := Grow.cells hW; go_simp; exact ⟨OneV.mk _, Grow.refl _⟩))
      (apply lh_o; kernel_rfl; kernel_rfl; kernel_rfl; (intro W hW; go_simp; first | exact gB (E1.out _) | exact gV (E1.out _)))
      iterate 5 (apply lh_o; kernel_rfl; kernel_rfl; kernel_rfl; (intro W hW; have hWc := Grow.cells hW; go_simp; exact ⟨OneV.mk _, Grow.refl _⟩))
      (apply lh_o; kernel_rfl; kernel_rfl; kernel_rfl; (intro W hW; go_simp; first | exact gB (E2.out _) | exact gV (E2.out _)))
      iterate 2 (apply lh_o; kernel_rfl; kernel_rfl; kernel_rfl; (intro W hW; have hWc := Grow.cells hW; go_simp; exact ⟨OneV.mk _, Grow.refl _⟩))
      (refine lh_nil ?_; intro W hW; simp only [Act.put, List.setIfInBounds_toArray, List.set_cons_succ, List.set_cons_zero])
      have hbE := BW.out.trans ((B2.out.trans ((HBE.out.trans (Below.mono hW HBE.out.size)).mono B2.out.size)).mono BW.out.size)
      go_wp2
      go_ret
      exact ⟨by rw [← HZ.out]; rfl, hbE⟩
end Go.Proofs.YtbdanadmabemdaaDoor
