
/-
The texts of numbers, samples and rings: the reference.
-/
import Derived.Test.YtbdanadmabemdaaDoorHf
namespace Go.Proofs.YtbdanadmabemdaaDoor
open Go Go.RowKit Fl
/-- a byte as a text -/
theorem one_byte (W : World) (g c : Nat) (hc : c < 256) (hg : W.heap[g]? = some (.cells #[.int .u8 (c : Int)] 5)) :
    (convert 125 9 (.slice (some ⟨g, 0, none⟩) 1 1)).run Tryd.prog W = .ok (.string ⟨([UInt8.ofNat c] : List UInt8).toArray⟩) W :=
  run_convert_bytes_back (P := Tryd.prog) W 125 9 5 ⟨g, 0, none⟩ 1 [UInt8.ofNat c] Tryd.underlying125 Tryd.underlying5 Tryd.underlying9 (fun j hj => by
    have hj2 : j = 0 := by simp at hj; omega
    subst hj2
    show W.cell? ⟨g, 0, none⟩ = some (.int .u8 ((UInt8.ofNat c).toNat : Int))
    rw [u8_of hc]
    exact cell_of hg 0 rfl)
theorem u8_id (n : Int) (h1 : 0 ≤ n) (h2 : n < 256) : IntKind.u8.wrap n = n := by simp [IntKind.wrap, IntKind.bits, IntKind.signed]; omega
set_option maxRecDepth 100000 in
set_option maxHeartbeats 400000 in
theorem c_Decimal : ∀ (k n : Nat) (_ : n < 10 ^ (k + 1)) (_ : k ≤ 19) (_ : n ≤ 9223372036854775807) (w : World), Calls Tryd.prog 78 #[.int .i64 (n : Int)] w (RetS (Lib.decDigits n) w) := by
  have base : ∀ (n : Nat) (_ : n < 10) (w : World), Calls Tryd.prog 78 #[.int .i64 (n : Int)] w (RetS (Lib.decDigits n) w) := by
    intro n hn w
    obtain ⟨c, hc⟩ : ∃ c : Nat, c = 48 + n := ⟨_, rfl⟩
    have hd : Lib.decDigits n = [UInt8.ofNat c] := by
      unfold Lib.decDigits
      rw [dif_pos hn, hc]
    have e1 : IntKind.i64.wrap (48 + (n : Int)) = (c : Int) := by rw [hc, IntWalk.i64_in _ (by omega)]; omega
    have e2 := u8_id (c : Int) (by omega) (by omega)
    have hcv := one_byte (w.alloc (.cells #[.int .u8 (c : Int)] 5)) w.heap.size c (by omega) (MapKept.heap_alloc w _).1
    have hno : ¬ (10 : Int) ≤ (n : Int) := by omega
    rw [hd]
    clear hc hd hn
    generalize ([UInt8.ofNat c] : List UInt8) = LL at *
    go_enter Tryd.func78, Tryd.ntmps78
    go_wp2
    go_ret
    exact ⟨rfl, by (repeat (first | (with_reducible refine Below.drewN ?_) | (with_reducible refine Below.drew ?_) | ((with_reducible refine Below.alloc ?_ ?_ _); rotate_left; (first | omega | (simp <;> omega))) | ((with_reducible refine Below.setCell ?_ ?_ _); rotate_left; (first | omega | (simp <;> omega))) | (with_reducible exact Below.refl _ _) | (with_reducible assumption)))⟩
  intro k
  induction k with
  | zero => exact fun n h _ _ w => base n (by simpa using h) w
  | succ k ih =>
    intro n h hk hn w
    by_cases h10 : n < 10
    · exact base n h10 w
    obtain ⟨m, hm⟩ : ∃ m, m = n / 10 := ⟨_, rfl⟩
    obtain ⟨c, hc⟩ : ∃ c : Nat, c = 48 + n % 10 := ⟨_, rfl⟩
    have hm1 : m < 10 ^ (k + 1) := by
      rw [hm, Nat.div_lt_iff_lt_mul (by omega), ← Nat.pow_succ]
      exact h
    have I : Hid (∀ W, Calls Tryd.prog 78 #[.int .i64 (m : Int)] W (RetS (Lib.decDigits m) W)) := fun W => ih m hm1 (by omega) (by omega) W
    have hl := dec_len m k hm1
    have HR0 : (⟨(Lib.decDigits m).toArray⟩ : ByteArray) ++ ⟨([UInt8.ofNat c] : List UInt8).toArray⟩ = ⟨(Lib.decDigits n).toArray⟩ := by
      rw [ba_app]
      conv => rhs; unfold Lib.decDigits
      rw [dif_neg h10, hm, hc]
    have HR := Lib.hid HR0
    have e0 : IntKind.i64.wrap ((n : Int) / 10) = (m : Int) := by rw [IntWalk.i64_in _ (by omega)]; omega
    have e00 : (n : Int) / 10 = (m : Int) := by omega
    have em : IntKind.i64.wrap (m : Int) = (m : Int) := IntWalk.i64_in _ (by omega)
    obtain ⟨r, hr⟩ : ∃ r : Nat, r = n % 10 := ⟨_, rfl⟩
    have e3 : (n : Int) % 10 = (r : Int) := by omega
    have e33 : (n : Int).tmod 10 = (r : Int) := by rw [Int.tmod_eq_emod_of_nonneg (by omega)]; exact e3
    have er : IntKind.i64.wrap (r : Int) = (r : Int) := IntWalk.i64_in _ (by omega)
    have e1 : IntKind.i64.wrap (48 + (r : Int)) = (c : Int) := by rw [hc, IntWalk.i64_in _ (by omega)]; omega
    have e2 := u8_id (c : Int) (by omega) (by omega)
    have hc2 : c < 256 := by omega
    have hyes : (10 : Int) ≤ (n : Int) := by omega
    have f1 : ¬ 9223372036854775807 < (Lib.decDigits m).length + 1 := by omega
    clear HR0 hm hc hr hm1 ih base h hk h10 hl
    generalize Lib.decDigits n = LR at *
    generalize Lib.decDigits m = LM at *
    go_enter Tryd.func78, Tryd.ntmps78
    go_wp2
    refine wp_region_grow [8] [7] (by kernel_rfl) (by kernel_rfl) (by kernel_rfl) ?_
    apply Exists.intro
    iterate 2 (apply lh_o; kernel_rfl; kernel_rfl; kernel_rfl; (intro W hW; have hWc := Grow.cells hW; go_simp; exact ⟨OneV.mk _, Grow.refl _⟩))
    (apply lh_o; kernel_rfl; kernel_rfl; kernel_rfl; (intro W hW; go_simp; first | exact gB (I.out _) | exact gV (I.out _)))
    iterate 4 (apply lh_o; kernel_rfl; kernel_rfl; kernel_rfl; (intro W hW; have hWc := Grow.cells hW; go_simp; exact ⟨OneV.mk _, Grow.refl _⟩))
    (apply lh_new; kernel_rfl; kernel_rfl; kernel_rfl; (intro W hW; have hWc := Grow.cells hW; go_simp; exact ⟨NewAt.mk _ _ _ _, Grow.alloc _ _⟩); intro g hfr)
    (apply lh_h; kernel_rfl; kernel_rfl; kernel_rfl; (intro W hW; have hcv := one_byte W _ c hc2 hW.2; clear hW; go_simp; exact ⟨OneV.mk _, Grow.refl _⟩))
    iterate 2 (apply lh_o; kernel_rfl; kernel_rfl; kernel_rfl; (intro W hW; have hWc := Grow.cells hW; go_simp; exact ⟨OneV.mk _, Grow.refl _⟩))
    refine lh_nil ?_
    intro W hW
    simp only [Act.put, List.setIfInBounds_toArray, List.set_cons_succ, List.set_cons_zero]
    have hb : Below w.heap.size w W := hW.1
    clear hW
    go_wp2
    go_ret
    exact ⟨by rw [← HR.out]; rfl, hb⟩
end Go.Proofs.YtbdanadmabemdaaDoor
