
/-
Powers of two: the reference's loops.
-/
import Derived.Test.YtmhgcflccaflpaaLl
namespace Go.Proofs.Ytmhgcflccaflpaa
open Go Go.RowKit Fl
theorem pw2_lt {m : Int} (h1 : -300 ≤ m) (h2 : m ≤ 300) : 700 * B52 ≤ pw2 m ∧ pw2 m ≤ 1323 * B52 :=
  ⟨Nat.mul_le_mul_right _ (by omega), Nat.mul_le_mul_right _ (by omega)⟩
theorem pw2_succ {m : Int} (h1 : -300 ≤ m) : pw2 (m + 1) = pw2 m + B52 := by
  unfold pw2
  rw [show (m + 1 + 1023).toNat = (m + 1023).toNat + 1 by omega, Nat.succ_mul]
theorem pw2_up {m : Int} (h1 : -300 ≤ m) (h2 : m ≤ 299) {P : Nat} (hP : P = pw2 m) : ∃ P1, fop .mul .f64 P 4611686018427387904 = P1 ∧ (∀ t, nv .f64 P1 t = P1) ∧ Hid (P1 = pw2 (m + 1)) := by
  subst hP
  have h3 := pw2_lt h1 (Int.le_trans h2 (by omega))
  have hB := b52_val
  have hI := inf_val
  have e := pw2_succ h1
  refine ⟨pw2 m + B52, twice (by omega) (by omega), fun t => nv_of t (nan_free (by omega)), e.symm⟩
theorem pw2_down {m : Int} (h1 : -299 ≤ m) (h2 : m ≤ 300) {P : Nat} (hP : P = pw2 m) : ∃ P1, fop .quo .f64 P 4611686018427387904 = P1 ∧ (∀ t, nv .f64 P1 t = P1) ∧ Hid (P1 = pw2 (m - 1)) := by
  subst hP
  have h3 := pw2_lt (by omega) h2
  have h4 := pw2_lt (m := m - 1) (by omega) (by omega)
  have hB := b52_val
  have hI := inf_val
  have e := pw2_succ (m := m - 1) (by omega)
  rw [Int.sub_add_cancel] at e
  have hh := half (x := pw2 m) (by omega) (by omega)
  obtain ⟨D, hD⟩ : ∃ D, D = pw2 (m - 1) := ⟨_, rfl⟩
  rw [← hD] at e h4
  refine ⟨D, ?_, fun t => nv_of t (nan_free (by omega)), hD⟩
  rw [hh, e]
  exact Nat.add_sub_cancel ..
theorem pw2_zero : pw2 0 = 4607182418800017408 := by decide
set_option maxHeartbeats 1000000 in
theorem c_l07Power (k : Int) (hk1 : -130 ≤ k) (hk2 : k ≤ 130) (w : World) : Calls Try.prog 47 #[.int .i64 k] w (RetF64 (pw2 k) w) := by
  have HR : Hid (∃ R, R = pw2 k) := ⟨_, rfl⟩
  go_enter Try.func47, Try.ntmps47
  go_wp2
  go_loopw [0, 3] (fun x p wr => ∃ (i : Int) (P : Nat), x = .int .i64 i ∧ p = .float .f64 P ∧ Hid (P = pw2 (k - i)) ∧ ((0 ≤ i ∧ i ≤ k) ∨ i = k) ∧ ∃ q, wr = w.drewN q) (fun x _ _ => (intOf x).toNat)
  case atStart => exact ⟨k, _, rfl, rfl, by show _ = _; rw [Int.sub_self]; exact pw2_zero.symm, Or.inr rfl, same0 _⟩
  case round =>
    obtain ⟨i, P, rfl, rfl, hP, hi, q, rfl⟩ := hrel
    by_cases hlt : 0 < i
    · obtain ⟨P1, y1, y2, HP1⟩ := pw2_up (by omega) (by omega) hP.out
      have g : IntKind.i64.wrap (i - 1) = i - 1 := IntWalk.i64_in _ (by omega)
      clear hP
      go_wp2
      go_roundw
      case rel => exact ⟨i - 1, P1, rfl, rfl, by show _ = _; rw [HP1.out]; congr 1; omega, Or.inl (by omega), by first | exact same1 _ _ | exact ⟨_, by rw [World.drewN_drewN]⟩⟩
      case measure => simp [intOf]; omega
    · have hk : i ≤ 0 ∧ -130 ≤ i := by omega
      clear hi
      go_wp2
      go_loopw [0, 3] (fun x p wr => ∃ (i : Int) (P : Nat), x = .int .i64 i ∧ p = .float .f64 P ∧ Hid (P = pw2 (k - i)) ∧ (i ≤ 0 ∧ -130 ≤ i) ∧ ∃ q, wr = w.drewN q) (fun x _ _ => (-intOf x).toNat)
      case atStart => exact ⟨i, P, rfl, rfl, hP, hk, same1 _ _⟩
      case round =>
        clear hlt hk hP
        obtain ⟨i, P, rfl, rfl, hP, hi, q, rfl⟩ := hrel
        by_cases hlt : i < 0
        · obtain ⟨P1, y1, y2, HP1⟩ := pw2_down (by omega) (by omega) hP.out
          have g : IntKind.i64.wrap (i + 1) = i + 1 := IntWalk.i64_in _ (by omega)
          clear hP
          go_wp2
          go_roundw
          case rel => exact ⟨i + 1, P1, rfl, rfl, by show _ = _; rw [HP1.out]; congr 1; omega, by omega, by first | exact same1 _ _ | exact ⟨_, by rw [World.drewN_drewN]⟩⟩
          case measure => simp [intOf]; omega
        · obtain rfl : i = 0 := by omega
          go_wp2
          go_ret
          exact ⟨by rw [hP.out, Int.sub_zero]; rfl, same1 _ _⟩
end Go.Proofs.Ytmhgcflccaflpaa
