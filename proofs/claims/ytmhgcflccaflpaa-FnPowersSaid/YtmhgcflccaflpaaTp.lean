
/-
The powers of two of the program and of the reference; the law of TwoTo.
-/
import Derived.Test.YtmhgcflccaflpaaTn
import Derived.Test.YtmhgcflccaflpaaLn
namespace Go.Proofs.Ytmhgcflccaflpaa
open Go Go.RowKit Fl
theorem two_facts {b : Nat} (hb : b < 4294967296) (h : insB b 3270508544 1123024896 = true) :
    ∃ (kk : Int) (K D Y : Nat), (∀ t, nv .f64 (up b) t = up b) ∧ Hid (∀ w, Calls Try.prog 28 #[.float .f64 (up b)] w (RetF .f64 K w)) ∧ (∀ t, nv .f64 K t = K) ∧ Hid (floatToIntVal .f64 K .i64 = some kk) ∧ Hid (-120 ≤ kk ∧ kk ≤ 120) ∧
      fop .sub .f64 (up b) K = D ∧ (∀ t, nv .f64 D t = D) ∧ fop .mul .f64 D 4604418534313441775 = Y ∧ (∀ t, nv .f64 Y t = Y) ∧ Hid (Y ≤ LN2) ∧
      Hid (twoD b = (((polyS Y 14 / B52 : Nat) : Int) + kk).toNat * B52 + polyS Y 14 % B52) := by
  obtain ⟨kk, K, D, Y, n1, eK, nK, iK, k1, k2, eD, nD, eY, lY, hk, hy⟩ := two_pre hb h
  refine ⟨kk, K, D, Y, fun t => nv_of t (by rw [isNaN_up]; exact n1), fun w => ?_, fun t => nv_of t nK, iK, ⟨k1, k2⟩, eD, fun t => nv_of t nD, eY, fun t => nv_of t (nan_free (Nat.lt_of_le_of_lt lY (by decide))), lY, ?_⟩
  · have := c_Floor (up b) w (by rw [isNaN_up]; exact n1)
    rwa [eK] at this
  · show twoD b = _
    unfold twoD; rw [hk, hy]
theorem c_TwoTo_no (b : Nat) (w : World) (h : insB b 3270508544 1123024896 = false) : Calls Try.prog 15 #[.float .f32 b] w (RetFK 0 2 w) := by
  go_enter Try.func15, Try.ntmps15
  go_wp2_with (go_at_call 27; refine (c_inside _ _ _ _).mono ?_; rw [h]; rintro e w' ⟨rfl, n1, rfl⟩)
  go_ret2
  exact ⟨0, _, rfl, rfl⟩
set_option maxRecDepth 10000 in
set_option maxHeartbeats 1000000 in
theorem c_TwoTo_ok (b : Nat) (hb : b < 4294967296) (w : World) (h : insB b 3270508544 1123024896 = true) : Calls Try.prog 15 #[.float .f32 b] w (RetFK (down (twoD b)) 0 w) := by
  obtain ⟨kk, K, D, Y, hu, HF, hK, HI, HK, eD, vD, eY, vY, HY, HD⟩ := two_facts hb h
  generalize hR : down (twoD b) = R at *
  have HR : Hid (R = down (twoD b)) := hR.symm
  clear hR
  go_enter Try.func15, Try.ntmps15
  go_wp2_with (first | (go_at_call 27; refine (c_inside _ _ _ _).mono ?_; rw [h]; rintro e w' ⟨rfl, n1, rfl⟩) | (go_at_call 28; refine (HF.out _).mono ?_; rintro e w' ⟨t2, n2, rfl, rfl⟩))
  clear h hu HF eD vD eY
  go_loopw [6, 7] (fun s m wr => ∃ (j S : Nat), j ≤ 14 ∧ m = .int .i64 (14 - (j : Int)) ∧ s = .float .f64 S ∧ Hid (S = polyS Y j) ∧ ∃ q, wr = w.drewN q) (fun _ m _ => (intOf m).toNat)
  case atStart => exact ⟨0, _, Nat.zero_le _, rfl, rfl, rfl, by first | exact same1 _ _ | exact ⟨_, rfl⟩⟩
  case round =>
    obtain ⟨j, S, hj, rfl, rfl, HS, q, rfl⟩ := hrel
    by_cases hlt : j < 14
    · obtain ⟨Q, P, T, q1, q2, p1, p2, t1, t2, HT⟩ := poly_round HY.out hlt HS.out
      have hge : (14 - (j : Int) ≥ 1) := by omega
      have g : IntKind.i64.wrap (14 - (j : Int) - 1) = 14 - (j : Int) - 1 := IntWalk.i64_in _ (by omega)
      go_wp2
      go_roundw
      case rel => exact ⟨j + 1, T, by omega, by go_num, rfl, HT, by first | exact same1 _ _ | exact ⟨_, by rw [World.drewN_drewN]⟩⟩
      case measure => simp [intOf]; omega
    · obtain rfl : j = 14 := by omega
      obtain ⟨pb1, pb2⟩ := poly_bounds HY.out 14 (by omega)
      obtain ⟨E2, x1, x2, x3, x4, x5, x6, x7, x8, x9⟩ := two_end (S := S) (by rw [HS.out]; exact pb1) (by rw [HS.out]; exact pb2) HK.out.1 HK.out.2
      have HL := Lib.hid (fun w => c_Ldexp S x1 x2 kk E2 x3 x4 x5 w)
      have HE : Hid (R = down (E2 * B52 + S % B52)) := by rw [show Hid (R = down (E2 * B52 + S % B52)) = (R = down (E2 * B52 + S % B52)) from rfl, HR.out, HD.out, ← HS.out, x6]
      have hi : ∀ w, (convert 42 3 (.float .f64 K)).run Try.prog w = .ok (.int .i64 kk) w := fun w => run_convert_float_int w _ _ _ _ _ _ (by rw [Try.underlying42]; rfl) Try.underlying3 HI.out
      have hv : ∀ t, nv .f64 (E2 * B52 + S % B52) t = E2 * B52 + S % B52 := fun t => nv_of t x9
      clear x1 x2 x3 x4 x5 x6 x7 x9 pb1 pb2
      generalize E2 * B52 + S % B52 = V at *
      go_wp2_with (go_at_call 29; refine (HL.out _).mono ?_; rintro e w' ⟨rfl, n1, rfl⟩)
      go_ret2
      exact ⟨_, _, by rw [HE.out]; rfl, by first | rfl | rw [World.drewN_drewN]⟩
theorem c_l07Two_no (b : Nat) (w : World) (h : insB b 3270508544 1123024896 = false) : Calls Try.prog 30 #[.float .f32 b] w (RetFL 0 false w) := by
  unfold insB at h
  cases hl : (FloatKind.f32.format.order b 3270508544 == some .gt || FloatKind.f32.format.order b 3270508544 == some .eq)
  all_goals
    rw [hl] at h
    try simp only [Bool.true_and] at h
    go_enter Try.func30, Try.ntmps30
    go_wp2
    go_ret2
    exact ⟨0, 0, rfl, rfl⟩
set_option maxRecDepth 10000 in
set_option maxHeartbeats 1000000 in
theorem c_l07Two_ok (b : Nat) (hb : b < 4294967296) (w : World) (h : insB b 3270508544 1123024896 = true) : Calls Try.prog 30 #[.float .f32 b] w (RetFL (down (twoD b)) true w) := by
  obtain ⟨kk, K, D, Y, hu, HF, hK, HI, HK, eD, vD, eY, vY, HY, HD⟩ := two_facts hb h
  generalize hR : down (twoD b) = R at *
  have HR : Hid (R = down (twoD b)) := hR.symm
  clear hR
  unfold insB at h
  simp only [Bool.and_eq_true] at h
  obtain ⟨hl, hr⟩ := h
  go_enter Try.func30, Try.ntmps30
  go_wp2_with (go_at_call 28; refine (HF.out _).mono ?_; rintro e w' ⟨t2, n2, rfl, rfl⟩)
  clear hl hr hu HF eD vD eY
  go_loopw [6, 7] (fun s m wr => ∃ (j S : Nat), j ≤ 14 ∧ m = .int .i64 (14 - (j : Int)) ∧ s = .float .f64 S ∧ Hid (S = polyS Y j) ∧ ∃ q, wr = w.drewN q) (fun _ m _ => (intOf m).toNat)
  case atStart => exact ⟨0, _, Nat.zero_le _, rfl, rfl, rfl, by first | exact same1 _ _ | exact ⟨_, rfl⟩⟩
  case round =>
    obtain ⟨j, S, hj, rfl, rfl, HS, q, rfl⟩ := hrel
    by_cases hlt : j < 14
    · obtain ⟨Q, P, T, q1, q2, p1, p2, t1, t2, HT⟩ := poly_round HY.out hlt HS.out
      have hge : (14 - (j : Int) ≥ 1) := by omega
      have g : IntKind.i64.wrap (14 - (j : Int) - 1) = 14 - (j : Int) - 1 := IntWalk.i64_in _ (by omega)
      go_wp2
      go_roundw
      case rel => exact ⟨j + 1, T, by omega, by go_num, rfl, HT, by first | exact same1 _ _ | exact ⟨_, by rw [World.drewN_drewN]⟩⟩
      case measure => simp [intOf]; omega
    · obtain rfl : j = 14 := by omega
      obtain ⟨pb1, pb2⟩ := poly_bounds HY.out 14 (by omega)
      obtain ⟨E2, x1, x2, x3, x4, x5, x6, x7, x8, x9⟩ := two_end (S := S) (by rw [HS.out]; exact pb1) (by rw [HS.out]; exact pb2) HK.out.1 HK.out.2
      have HL := Lib.hid (fun w => c_l07Power kk (by have := HK.out; omega) (by have := HK.out; omega) w)
      have HE : Hid (R = down (E2 * B52 + S % B52)) := by rw [show Hid (R = down (E2 * B52 + S % B52)) = (R = down (E2 * B52 + S % B52)) from rfl, HR.out, HD.out, ← HS.out, x6]
      have hi : ∀ w, (convert 42 2 (.float .f64 K)).run Try.prog w = .ok (.int .i64 kk) w := fun w => run_convert_float_int w _ _ _ _ _ _ (by rw [Try.underlying42]; rfl) Try.underlying2 HI.out
      have hv : ∀ t, nv .f64 (E2 * B52 + S % B52) t = E2 * B52 + S % B52 := fun t => nv_of t x9
      clear x1 x2 x3 x4 x5 x6 x9 pb1 pb2
      generalize E2 * B52 + S % B52 = V at *
      generalize pw2 kk = PW at *
      go_wp2_with (go_at_call 47; refine (HL.out _).mono ?_; rintro e w' ⟨rfl, n1, rfl⟩)
      go_ret2
      exact ⟨_, _, by rw [HE.out]; rfl, by first | rfl | rw [World.drewN_drewN]⟩
theorem c_sTwoTo_no (b : Nat) (w : World) (h : insB b 3270508544 1123024896 = false) : Calls Try.prog 16 #[.float .f32 b] w (RetFK 0 2 w) := by
  go_enter Try.func16, Try.ntmps16
  go_wp2_with (go_at_call 30; refine (c_l07Two_no _ _ h).mono ?_; rintro e w' ⟨t1, n1, rfl, rfl⟩)
  go_ret2
  exact ⟨0, _, rfl, rfl⟩
theorem c_sTwoTo_ok (b : Nat) (hb : b < 4294967296) (w : World) (h : insB b 3270508544 1123024896 = true) : Calls Try.prog 16 #[.float .f32 b] w (RetFK (down (twoD b)) 0 w) := by
  have HC := Lib.hid (fun w => c_l07Two_ok b hb w h)
  generalize down (twoD b) = R at *
  go_enter Try.func16, Try.ntmps16
  go_wp2_with (go_at_call 30; refine (HC.out _).mono ?_; rintro e w' ⟨t1, n1, rfl, rfl⟩)
  go_ret2
  exact ⟨_, _, rfl, rfl⟩
end Go.Proofs.Ytmhgcflccaflpaa
