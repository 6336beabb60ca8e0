
/-
Contracts of the laws' comparison of filters.
-/
import Derived.Test.YtbdanadmabemdaaDoorSn
import Derived.Test.YtbdanadmabemdaaDoorDg
namespace Go.Proofs.YtbdanadmabemdaaDoor
open Go Go.RowKit Fl
theorem c_eqFloat32A3 (xs ys : List Nat) (w : World) (hx : xs.length = 3) (hy : ys.length = 3) (h : Alk xs ys) :
    Calls Tryd.prog 63 #[.agg (arr xs), .agg (arr ys)] w (RetV (.bool true) w) := by
  have c1 : ∀ k, k < 3 → ((w.alloc (.cells (arr xs) 26)).alloc (.cells (arr ys) 26)).cell? ⟨w.heap.size, k, none⟩ = some (.float .f32 (nth xs k)) := fun k hk => by
    rw [cell_old _ _ _ _ (by simp), cell_new, arr_get _ _ (by omega)]
  have c2 : ∀ k, k < 3 → ((w.alloc (.cells (arr xs) 26)).alloc (.cells (arr ys) 26)).cell? ⟨w.heap.size + 1, k, none⟩ = some (.float .f32 (nth ys k)) := fun k hk => by
    have := cell_new (w.alloc (.cells (arr xs) 26)) (arr ys) 26 k
    rw [show (w.alloc (.cells (arr xs) 26)).heap.size = w.heap.size + 1 by simp] at this
    rw [this, arr_get _ _ (by omega)]
  have C1 := Lib.hid c1
  have C2 := Lib.hid c2
  clear c1 c2 hx hy
  go_enter Tryd.func63, Tryd.ntmps63
  go_wp2
  go_loopw [5] (fun i wr => ∃ k : Nat, k ≤ 3 ∧ i = .int .i64 k ∧ ∃ n, wr = ((w.alloc (.cells (arr xs) 26)).alloc (.cells (arr ys) 26)).drewN n) (fun i _ => 3 - (intOf i).toNat)
  case atStart => exact ⟨0, by omega, rfl, 0, rfl⟩
  case round =>
    obtain ⟨k, hk, rfl, n, rfl⟩ := hrel
    by_cases hlt : k < 3
    · have d1 := C1.out k hlt
      have d2 := C2.out k hlt
      have hu := h k
      go_wp2_with fail
      refine wp_region_sets' (by kernel_rfl) (by kernel_rfl) ?_
      apply Exists.intro
      iterate 10 (first | (apply lx_want; rfl; (intro n; go_simp; exact ⟨LF.mk _ _ _, _, (by first | rfl | exact congrArg _ (Nat.add_assoc _ _ _))⟩); rintro _ ⟨t, rfl⟩) | (apply lx_want; rfl; (intro n; go_simp; exact ⟨OneV.mk _, _, (by first | rfl | exact congrArg _ (Nat.add_assoc _ _ _))⟩); rintro _ rfl) | (apply lx_want; rfl; (intro n; go_simp; first | exact lx_callB (c_sameFloat _ _ _ _) | exact lx_callB2 (c_sameFloat _ _ _ _)); rintro _ rfl) | (apply lx_skip; rfl))
      (refine lx_nil (Vl := []) ?_; intro n; simp only [Act.put, List.setIfInBounds_toArray, List.set_cons_succ, List.set_cons_zero])
      go_wp2
      go_roundw
      case rel => exact ⟨k + 1, by omega, by go_num, _, rfl⟩
      case measure => simp [intOf]; omega
    · obtain rfl : k = 3 := by omega
      go_wp2
      go_ret
      exact ⟨rfl, by (repeat (first | (with_reducible refine Below.drewN ?_) | (with_reducible refine Below.drew ?_) | ((with_reducible refine Below.alloc ?_ ?_ _); rotate_left; (first | omega | (simp <;> omega))) | ((with_reducible refine Below.setCell ?_ ?_ _); rotate_left; (first | omega | (simp <;> omega))) | (with_reducible exact Below.refl _ _) | (with_reducible assumption)))⟩

theorem c_eqFloat32A2 (xs ys : List Nat) (w : World) (hx : xs.length = 2) (hy : ys.length = 2) (h : Alk xs ys) :
    Calls Tryd.prog 64 #[.agg (arr xs), .agg (arr ys)] w (RetV (.bool true) w) := by
  have c1 : ∀ k, k < 2 → ((w.alloc (.cells (arr xs) 27)).alloc (.cells (arr ys) 27)).cell? ⟨w.heap.size, k, none⟩ = some (.float .f32 (nth xs k)) := fun k hk => by
    rw [cell_old _ _ _ _ (by simp), cell_new, arr_get _ _ (by omega)]
  have c2 : ∀ k, k < 2 → ((w.alloc (.cells (arr xs) 27)).alloc (.cells (arr ys) 27)).cell? ⟨w.heap.size + 1, k, none⟩ = some (.float .f32 (nth ys k)) := fun k hk => by
    have := cell_new (w.alloc (.cells (arr xs) 27)) (arr ys) 27 k
    rw [show (w.alloc (.cells (arr xs) 27)).heap.size = w.heap.size + 1 by simp] at this
    rw [this, arr_get _ _ (by omega)]
  have C1 := Lib.hid c1
  have C2 := Lib.hid c2
  clear c1 c2 hx hy
  go_enter Tryd.func64, Tryd.ntmps64
  go_wp2
  go_loopw [5] (fun i wr => ∃ k : Nat, k ≤ 2 ∧ i = .int .i64 k ∧ ∃ n, wr = ((w.alloc (.cells (arr xs) 27)).alloc (.cells (arr ys) 27)).drewN n) (fun i _ => 2 - (intOf i).toNat)
  case atStart => exact ⟨0, by omega, rfl, 0, rfl⟩
  case round =>
    obtain ⟨k, hk, rfl, n, rfl⟩ := hrel
    by_cases hlt : k < 2
    · have d1 := C1.out k hlt
      have d2 := C2.out k hlt
      have hu := h k
      go_wp2_with fail
      refine wp_region_sets' (by kernel_rfl) (by kernel_rfl) ?_
      apply Exists.intro
      iterate 10 (first | (apply lx_want; rfl; (intro n; go_simp; exact ⟨LF.mk _ _ _, _, (by first | rfl | exact congrArg _ (Nat.add_assoc _ _ _))⟩); rintro _ ⟨t, rfl⟩) | (apply lx_want; rfl; (intro n; go_simp; exact ⟨OneV.mk _, _, (by first | rfl | exact congrArg _ (Nat.add_assoc _ _ _))⟩); rintro _ rfl) | (apply lx_want; rfl; (intro n; go_simp; first | exact lx_callB (c_sameFloat _ _ _ _) | exact lx_callB2 (c_sameFloat _ _ _ _)); rintro _ rfl) | (apply lx_skip; rfl))
      (refine lx_nil (Vl := []) ?_; intro n; simp only [Act.put, List.setIfInBounds_toArray, List.set_cons_succ, List.set_cons_zero])
      go_wp2
      go_roundw
      case rel => exact ⟨k + 1, by omega, by go_num, _, rfl⟩
      case measure => simp [intOf]; omega
    · obtain rfl : k = 2 := by omega
      go_wp2
      go_ret
      exact ⟨rfl, by (repeat (first | (with_reducible refine Below.drewN ?_) | (with_reducible refine Below.drew ?_) | ((with_reducible refine Below.alloc ?_ ?_ _); rotate_left; (first | omega | (simp <;> omega))) | ((with_reducible refine Below.setCell ?_ ?_ _); rotate_left; (first | omega | (simp <;> omega))) | (with_reducible exact Below.refl _ _) | (with_reducible assumption)))⟩

theorem Alk.three {a0 a1 a2 b0 b1 b2 : Nat} (h0 : up b0 = up a0) (h1 : up b1 = up a1) (h2 : up b2 = up a2) : Alk [a0, a1, a2] [b0, b1, b2] := by
  intro i
  match i with
  | 0 => exact h0
  | 1 => exact h1
  | 2 => exact h2
  | n + 3 => rfl
theorem Alk.two {a0 a1 b0 b1 : Nat} (h0 : up b0 = up a0) (h1 : up b1 = up a1) : Alk [a0, a1] [b0, b1] := by
  intro i
  match i with
  | 0 => exact h0
  | 1 => exact h1
  | n + 2 => rfl
theorem c_eq3 (a0 a1 a2 b0 b1 b2 : Nat) (w : World) (h0 : up b0 = up a0) (h1 : up b1 = up a1) (h2 : up b2 = up a2) :
    Calls Tryd.prog 63 #[.agg #[.float .f32 a0, .float .f32 a1, .float .f32 a2], .agg #[.float .f32 b0, .float .f32 b1, .float .f32 b2]] w (RetV (.bool true) w) :=
  c_eqFloat32A3 [a0, a1, a2] [b0, b1, b2] w rfl rfl (Alk.three h0 h1 h2)
theorem c_eq2 (a0 a1 b0 b1 : Nat) (w : World) (h0 : up b0 = up a0) (h1 : up b1 = up a1) :
    Calls Tryd.prog 64 #[.agg #[.float .f32 a0, .float .f32 a1], .agg #[.float .f32 b0, .float .f32 b1]] w (RetV (.bool true) w) :=
  c_eqFloat32A2 [a0, a1] [b0, b1] w rfl rfl (Alk.two h0 h1)
theorem c_eqFilter (k : Int) (f0 r0 f1 r1 f2 r2 f3 r3 f4 r4 : Nat) (w : World) (u : up r0 = up f0 ∧ up r1 = up f1 ∧ up r2 = up f2 ∧ up r3 = up f3 ∧ up r4 = up f4) :
    Calls Tryd.prog 31 #[.agg #[.int .i64 k, .float .f32 f0, .float .f32 f1, .float .f32 f2, .float .f32 f3, .float .f32 f4], .agg #[.int .i64 k, .float .f32 r0, .float .f32 r1, .float .f32 r2, .float .f32 r3, .float .f32 r4]] w (RetV (.bool true) w) := by
  obtain ⟨u0, u1, u2, u3, u4⟩ := u
  have U0 := Lib.hid u0
  have U1 := Lib.hid u1
  have U2 := Lib.hid u2
  have U3 := Lib.hid u3
  have U4 := Lib.hid u4
  clear u0 u1 u2 u3 u4
  go_enter Tryd.func31, Tryd.ntmps31
  go_wp2_with fail
  refine (c_eq3 _ _ _ _ _ _ _ U0.out U1.out U2.out).mono ?_
  rintro e w1 ⟨rfl, hb1⟩
  obtain ⟨hc1, hf1, hz1⟩ := bcell hb1
  try simp at hz1
  have zb1 : w.heap.size ≤ w1.heap.size := by omega
  try (have z1_0 : w.heap.size < w1.heap.size := by omega)
  try (have z1_1 : w.heap.size + 1 < w1.heap.size := by omega)
  try (have z1_2 : w.heap.size + 1 + 1 < w1.heap.size := by omega)
  try (have z1_3 : w.heap.size + 1 + 1 + 1 < w1.heap.size := by omega)
  have b1 : Below w.heap.size w w1 := Below.trans (by (repeat (first | (with_reducible refine Below.drewN ?_) | (with_reducible refine Below.drew ?_) | ((with_reducible refine Below.alloc ?_ ?_ _); rotate_left; (first | omega | (simp <;> omega))) | ((with_reducible refine Below.setCell ?_ ?_ _); rotate_left; (first | omega | (simp <;> omega))) | (with_reducible exact Below.refl _ _) | (with_reducible assumption)))) (hb1.mono (by first | omega | (simp <;> omega)))
  go_wp2_with fail
  refine (c_eq2 _ _ _ _ _ U3.out U4.out).mono ?_
  rintro e w2 ⟨rfl, hb2⟩
  obtain ⟨hc2, hf2, hz2⟩ := bcell hb2
  try simp at hz2
  have zb2 : w.heap.size ≤ w2.heap.size := by omega
  try (have z2_0 : w.heap.size < w2.heap.size := by omega)
  try (have z2_1 : w.heap.size + 1 < w2.heap.size := by omega)
  try (have z2_2 : w.heap.size + 1 + 1 < w2.heap.size := by omega)
  try (have z2_3 : w.heap.size + 1 + 1 + 1 < w2.heap.size := by omega)
  have b2 : Below w.heap.size w w2 := Below.trans (by (repeat (first | (with_reducible refine Below.drewN ?_) | (with_reducible refine Below.drew ?_) | ((with_reducible refine Below.alloc ?_ ?_ _); rotate_left; (first | omega | (simp <;> omega))) | ((with_reducible refine Below.setCell ?_ ?_ _); rotate_left; (first | omega | (simp <;> omega))) | (with_reducible exact Below.refl _ _) | (with_reducible assumption)))) (hb2.mono (by first | omega | (simp <;> omega)))
  go_wp2
  go_ret
  exact ⟨rfl, by (repeat (first | (with_reducible refine Below.drewN ?_) | (with_reducible refine Below.drew ?_) | ((with_reducible refine Below.alloc ?_ ?_ _); rotate_left; (first | omega | (simp <;> omega))) | ((with_reducible refine Below.setCell ?_ ?_ _); rotate_left; (first | omega | (simp <;> omega))) | (with_reducible exact Below.refl _ _) | (with_reducible assumption)))⟩
end Go.Proofs.YtbdanadmabemdaaDoor
