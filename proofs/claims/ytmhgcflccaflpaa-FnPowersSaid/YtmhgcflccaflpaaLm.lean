
/-
The program's logarithm and the law of LogTwo.
-/
import Derived.Test.YtmhgcflccaflpaaLl
namespace Go.Proofs.Ytmhgcflccaflpaa
open Go Go.RowKit Fl
def RetFK (v : Nat) (code : Int) (w : World) (e : Ending) (w' : World) : Prop := ∃ t n, e = .returned (.tuple #[.float .f32 (nv .f32 v t), .int .i64 code]) ∧ w' = w.drewN n
theorem c_Ld1 (k : Nat) (hk : k < 30) (w : World) : Calls Try.prog 29 #[.float .f64 4607182418800017408, .int .i64 (-((k : Int) + 1))] w (RetF64 (pN (k + 1)) w) := by
  have h := c_Ldexp 4607182418800017408 (by decide) (by decide) (-((k : Int) + 1)) (1023 - (k + 1)) (by rw [show (4607182418800017408 : Nat) / B52 = 1023 by decide]; omega) (by omega) (by omega) w
  rw [show (4607182418800017408 : Nat) % B52 = 0 by decide, Nat.add_zero] at h
  exact h
theorem fix_int_all : ∀ i : Fin 300, floatOfInt .f64 ((i.val : Int) - 150) = fixF (((i.val : Int) - 150) * 2 ^ 30) := by decide +kernel
theorem fix_int {k : Int} (h1 : -150 ≤ k) (h2 : k < 150) : floatOfInt .f64 k = fixF (k * 2 ^ 30) := by
  have h := fix_int_all ⟨(k + 150).toNat, by omega⟩
  rw [show (((⟨(k + 150).toNat, by omega⟩ : Fin 300).val : Nat) : Int) - 150 = k by simp only; omega] at h
  exact h
theorem twice' (f : Nat) (hf : f < B52) : fop .mul .f64 4611686018427387904 (1022 * B52 + f) = 1023 * B52 + f := by
  rw [mul_comm_f, twice (by have hB := b52_val; omega) (by have hB := b52_val; have hI := inf_val; omega)]
  omega
theorem c_LogTwo_no (x : Nat) (w : World) (h : areaB x = false) : Calls Try.prog 17 #[.float .f32 x] w (RetFK 0 2 w) := by
  go_enter Try.func17, Try.ntmps17
  go_wp2_with (go_at_call 31; refine (c_isArea _ _).mono ?_; rw [h]; rintro e w' ⟨rfl, n1, rfl⟩)
  go_ret2
  exact ⟨0, _, rfl, rfl⟩
theorem log_pre (x : Nat) (hx : x < 4294967296) (h : areaB x = true) : ∃ H0 E0 b S0 E1,
    Hid (∀ w, Calls Try.prog 32 #[.float .f64 (up x)] w (fun e w' => e = .returned (.tuple #[.float .f64 H0, .int .i64 E0]) ∧ ∃ n, w' = w.drewN n)) ∧
    fop .mul .f64 4611686018427387904 H0 = b ∧ (∀ t, nv .f64 (up x) t = up x) ∧ (∀ t, nv .f64 b t = b) ∧ (∀ t, nv .f64 H0 t = H0) ∧ IntKind.i64.wrap (E0 - 1) = E1 ∧ floatOfInt .f64 E1 = fixF S0 ∧ (∀ t, nv .f64 (fixF S0) t = fixF S0) ∧
    Hid (1023 * B52 ≤ b ∧ b < 1024 * B52) ∧ Hid (S0.natAbs ≤ A30) ∧ Hid (logF (up x) = down (fixF (ss b S0 30))) := by
  obtain ⟨x1, x2⟩ := area_range hx h
  obtain ⟨u1, u2⟩ := up_range x1 x2
  obtain ⟨e1, e2⟩ := ex0_bounds u1 u2
  have hf := Nat.mod_lt (up x) b52_pos
  have l1 : B52 ≤ up x := by have hB := b52_val; omega
  have l2 : up x < INF := by have hB := b52_val; have hI := inf_val; omega
  obtain ⟨f1, f2⟩ := fr0_bounds (up x)
  have k2 : fr0 (up x) < INF := by have hB := b52_val; have hI := inf_val; omega
  have k3 : 1022 * B52 + up x % B52 < INF := by have hB := b52_val; have hI := inf_val; omega
  have hA : (ex0 (up x) * 1073741824).natAbs ≤ A30 := by
    rw [show A30 = 214748364800 from rfl]
    clear f1 f2 k2 k3 l1 l2 hf u1 u2 x1 x2 h hx
    generalize ex0 (up x) = q at *
    omega
  have hw : IntKind.i64.wrap (((up x / B52 : Nat) : Int) - 1022 - 1) = ex0 (up x) := by
    clear hA f1 f2 k2 k3 l1 l2 hf u1 u2 x1 x2 h hx
    unfold ex0 at *
    generalize up x / B52 = q at *
    rw [IntWalk.i64_in _ (by omega)]; omega
  exact ⟨_, _, fr0 (up x), ex0 (up x) * 2 ^ 30, ex0 (up x), c_Frexp (up x) l1 l2, twice' _ hf, fun t => nv_of t (nan_free l2), fun t => nv_of t (nan_free k2), fun t => nv_of t (nan_free k3), hw, fix_int (by omega) (by omega), v_fix _, ⟨f1, f2⟩, hA, rfl⟩
set_option maxRecDepth 10000 in
set_option maxHeartbeats 1000000 in
theorem c_LogTwo_ok (x : Nat) (hx : x < 4294967296) (w : World) (h : areaB x = true) : Calls Try.prog 17 #[.float .f32 x] w (RetFK (logF (up x)) 0 w) := by
  obtain ⟨H0, E0, b, S0, E1, HC, h22, huv, hv0, hh0, g0, hfi, v0, HF, HA, HL⟩ := log_pre x hx h
  generalize logF (up x) = R at *
  clear hx
  go_enter Try.func17, Try.ntmps17
  go_wp2_with (first | (go_at_call 31; refine (c_isArea _ _).mono ?_; rw [h]; rintro e w' ⟨rfl, n1, rfl⟩) | (go_at_call 32; refine (HC.out _).mono ?_; rintro e w' ⟨rfl, n1, rfl⟩))
  clear h huv h22 hfi g0 hv0 HC hh0
  go_loopw [6, 7, 8] (fun z s i wr => ∃ (k : Nat) (Z0 F0 : Nat), k ≤ 30 ∧ i = .int .i64 ((k : Int) + 1) ∧ z = .float .f64 Z0 ∧ s = .float .f64 F0 ∧ Hid (Z0 = zz b k) ∧ Hid (F0 = fixF (ss b S0 k)) ∧ ∃ q, wr = w.drewN q) (fun _ _ i _ => 31 - (intOf i).toNat)
  case atStart => exact ⟨0, _, _, Nat.zero_le _, rfl, rfl, rfl, rfl, rfl, by first | exact same1 _ _ | exact ⟨_, rfl⟩⟩
  case round =>
    clear v0
    obtain ⟨k, Z0, F0, hk, rfl, rfl, rfl, HZ0, HF0, q, rfl⟩ := hrel
    by_cases hlt4 : k < 30
    · have hle : ((k : Int) + 1 ≤ 30) := by omega
      obtain ⟨Y, P1, Z1, F1, y1, y2, v1, v2, v3, v4, HZ1, HF1, HP1, hcase⟩ := frac_ex HF.out.1 HF.out.2 HA.out hlt4 HZ0.out HF0.out rfl
      have HD := Lib.hid (c_Ld1 k hlt4)
      rw [← HP1.out] at HD
      have g2 : IntKind.i64.wrap (-((k : Int) + 1)) = -((k : Int) + 1) := IntWalk.i64_in _ (by omega)
      have g3 : IntKind.i64.wrap ((k : Int) + 1 + 1) = (k : Int) + 1 + 1 := IntWalk.i64_in _ (by omega)
      clear y2
      rcases hcase with ⟨c2, c3, c4⟩ | ⟨c2, HC3, HC4⟩
      · go_wp2_with (go_at_call 29; refine (HD.out _).mono ?_; rintro e w' ⟨rfl, n1, rfl⟩)
        go_roundw
        case rel => exact ⟨k + 1, Z1, F1, by omega, by go_num, rfl, rfl, HZ1, HF1, by first | exact same1 _ _ | exact ⟨_, by rw [World.drewN_drewN]⟩⟩
        case measure => simp [intOf]; omega
      · clear v3 v4
        go_wp2_with fail
        go_roundw
        case rel => exact ⟨k + 1, Y, F0, by omega, by go_num, rfl, rfl, HC3.out.trans HZ1.out, HC4.out.trans HF1.out, by first | exact same1 _ _ | exact ⟨_, by rw [World.drewN_drewN]⟩⟩
        case measure => simp [intOf]; omega
    · obtain rfl : k = 30 := by omega
      have ho : ovf F0 = false := by rw [HF0.out]; exact ovf_fix (Nat.le_trans (ss_bounds HA.out 30 (by omega)) (by decide))
      go_wp2
      go_ret2
      exact ⟨_, _, by rw [HL.out, ← HF0.out]; rfl, by first | rfl | rw [World.drewN_drewN]⟩
theorem c_sLogTwo_no (x : Nat) (w : World) (h : areaB x = false) : Calls Try.prog 18 #[.float .f32 x] w (RetFK 0 2 w) := by
  go_enter Try.func18, Try.ntmps18
  go_wp2_with (go_at_call 33; refine (c_l07Log_no _ _ h).mono ?_; rintro e w' ⟨t1, n1, rfl, rfl⟩)
  go_ret2
  exact ⟨0, _, rfl, rfl⟩
theorem c_sLogTwo_ok (x : Nat) (hx : x < 4294967296) (w : World) (h : areaB x = true) : Calls Try.prog 18 #[.float .f32 x] w (RetFK (logF (up x)) 0 w) := by
  have HC := Lib.hid (fun w => c_l07Log_ok x hx w h)
  generalize logF (up x) = R at *
  go_enter Try.func18, Try.ntmps18
  go_wp2_with (go_at_call 33; refine (HC.out _).mono ?_; rintro e w' ⟨t1, n1, rfl, rfl⟩)
  go_ret2
  exact ⟨_, _, rfl, rfl⟩
end Go.Proofs.Ytmhgcflccaflpaa
