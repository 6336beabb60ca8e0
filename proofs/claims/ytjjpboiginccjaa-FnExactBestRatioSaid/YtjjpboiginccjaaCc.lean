
/-
Contracts of the floor, and of the parts of a delay.
-/
import Derived.Test.YtjjpboiginccjaaCb
import Derived.Test.YtjjpboiginccjaaNf
namespace Go.Proofs.Ytjjpboiginccjaa
open Go Go.RowKit Fl

theorem run_whole (P : Program) (w : World) (x : Nat) (name : String) (way : Ieee.Toward) (h : isNaN .f64 x = false) : (Extern.MathFloor.toIntegral name way #[.float .f64 x]).run P w = .ok (.float .f64 (whole way x)) w := by
  have h0 := h
  unfold isNaN at h
  have key : ∀ d, FloatKind.f64.decode x = d → d.isNaN = false → Extern.MathFloor.toIntegral name way #[.float .f64 x] = pure (.float .f64 (FloatKind.f64.encode (d.integral way))) := by
    intro d hd hn
    unfold Extern.MathFloor.toIntegral
    cases d with
    | nan s t => cases hn
    | infinity s =>
      conv => lhs; whnf
      rw [hd]
    | number s m e =>
      conv => lhs; whnf
      rw [hd]
  rw [key _ rfl h]
  unfold whole
  rw [if_neg (by rw [h0]; decide)]
  rfl
theorem x_floor (x : Nat) (w : World) (h : isNaN .f64 x = false) : (callFunc 97 #[.float .f64 x]).run Try.prog w = .ok (.value (.float .f64 (whole .down x))) w := by
  rw [run_callFunc_extern (e := Extern.MathFloor.toIntegral ("math.archFloor") .down) Try.func97 (by kernel_rfl) (by kernel_rfl) (by kernel_rfl) (by kernel_rfl), run_whole _ _ _ _ _ h]; rfl
theorem x_even (x : Nat) (w : World) (h : isNaN .f64 x = false) : (callFunc 63 #[.float .f64 x]).run Try.prog w = .ok (.value (.float .f64 (whole .even x))) w := by
  rw [run_callFunc_extern (e := Extern.MathFloor.toIntegral ("math.RoundToEven") .even) Try.func63 (by kernel_rfl) (by kernel_rfl) (by kernel_rfl) (by kernel_rfl), run_whole _ _ _ _ _ h]; rfl
theorem c_Floor (x : Nat) (w : World) (h : isNaN .f64 x = false) : Calls Try.prog 83 #[.float .f64 x] w (RetF .f64 (whole .down x) w) := by
  have hx := fun w => x_floor x w h
  go_enter Try.func83, Try.ntmps83
  go_wp2
  go_ret
  exact .raw rfl (same0 _)

/-! ### the parts of a delay -/
theorem delay_facts {p : Nat} (hp : p < 4294967296) (h : insB p 1073741824 1148846080 = true) :
    ∃ m : Nat, 1 ≤ m ∧ m ≤ 1000 ∧ isNaN .f32 p = false ∧ whole .down (up p) = floatOfInt .f64 (m : Int) := by
  obtain ⟨h1, h2⟩ := insB_range hp (by decide) (by decide) (by decide) h
  have u1 : up 1073741824 ≤ up p := up_mono (Nat.lt_of_le_of_lt h2 (by decide)) h1
  have u2 : up p ≤ up 1148846080 := up_mono (by decide) h2
  have e1 : up 1073741824 = 4611686018427387904 := by decide +kernel
  have e2 : up 1148846080 = 4652007308841189376 := by decide +kernel
  have f1 := flo_mono u1
  have f2 := flo_mono u2
  rw [e1] at f1
  rw [e2] at f2
  have g1 : flo 4611686018427387904 = 2 := by decide +kernel
  have g2 : flo 4652007308841189376 = 1000 := by decide +kernel
  refine ⟨flo (up p), by omega, by omega, isNaN_pos (by rw [inf32]; omega), whole_down ?_⟩
  have := inf64
  rw [show FloatKind.f64.format = Ieee.double from rfl] at this
  omega

def RetIFI (i : Int) (b : Nat) (c : Int) (w : World) (e : Ending) (w' : World) : Prop := ∃ t n, e = .returned (.tuple #[.int .i64 i, .float .f32 (nv .f32 b t), .int .i64 c]) ∧ w' = w.drewN n
theorem RetIFI.mk {b c t : Nat} {j i : Int} {w w' : World} (h : b = c) (hw : ∃ n, w' = w.drewN n) : RetIFI j c i w (.returned (.tuple #[.int .i64 j, .float .f32 (nv .f32 b t), .int .i64 i])) w' := by
  obtain ⟨n, hn⟩ := hw; exact ⟨t, n, by rw [h], hn⟩
theorem RetIFI.raw {b c : Nat} {j i : Int} {w w' : World} (h : b = c) (hw : ∃ n, w' = w.drewN n) : RetIFI j c i w (.returned (.tuple #[.int .i64 j, .float .f32 b, .int .i64 i])) w' := by
  obtain ⟨n, hn⟩ := hw; exact ⟨0, n, by rw [h]; rfl, hn⟩
/-- the two parts -/
def DelayPost (p : Nat) (w : World) : Ending → World → Prop :=
  if insB p 1073741824 1148846080 then
    (fun e w' => ∃ m : Nat, whole .down (up p) = floatOfInt .f64 (m : Int) ∧ m ≤ 1000 ∧
      (if FloatKind.f32.format.order (fop .sub .f32 p (floatOfInt .f32 (m : Int))) 1048576000 == some .lt then RetIFI ((m : Int) - 1) (fop .sub .f32 p (floatOfInt .f32 ((m : Int) - 1))) 0 w e w'
        else RetIFI m (fop .sub .f32 p (floatOfInt .f32 (m : Int))) 0 w e w'))
  else RetIFI 0 0 2 w

theorem c_DelayParts (p : Nat) (w : World) (hp : p < 4294967296) : Calls Try.prog 47 #[.float .f32 p] w (DelayPost p w) := by
  unfold DelayPost
  cases h : insB p 1073741824 1148846080
  · simp only [Bool.false_eq_true, if_false]
    go_enter Try.func47, Try.ntmps47
    go_wp2_with (go_at_call 65; refine (c_inside _ _ _ _).mono ?_; rintro e w' ⟨rfl, n1, rfl⟩)
    go_ret3
    exact .raw rfl (same1 _ _)
  · simp only [if_true]
    obtain ⟨m, m1, m2, hn, hw⟩ := delay_facts hp h
    have ho : ovf (floatOfInt .f64 (m : Int)) = false := ovf_int (by omega)
    have hd : down (floatOfInt .f64 (m : Int)) = floatOfInt .f32 (m : Int) := down_int (by omega)
    have hm1 : fop .sub .f32 (floatOfInt .f32 (m : Int)) 1065353216 = floatOfInt .f32 ((m : Int) - 1) := by
      obtain ⟨q, rfl⟩ : ∃ q, m = q + 1 := ⟨m - 1, by omega⟩
      have := (small_ints ⟨q, by omega⟩).1
      rw [show (((q + 1 : Nat) : Int) - 1) = ((q : Nat) : Int) by omega]
      exact this
    have hi : ∀ w, (convert 22 2 (.float .f32 (floatOfInt .f32 (m : Int)))).run Try.prog w = .ok (.int .i64 m) w := fun w =>
      run_convert_float_int w _ _ _ _ _ _ (by rw [Try.underlying22]; rfl) Try.underlying2 (small_ints ⟨m, by omega⟩).2
    have hi1 : ∀ w, (convert 22 2 (.float .f32 (floatOfInt .f32 ((m : Int) - 1)))).run Try.prog w = .ok (.int .i64 ((m : Int) - 1)) w := fun w => by
      obtain ⟨q, rfl⟩ : ∃ q, m = q + 1 := ⟨m - 1, by omega⟩
      rw [show (((q + 1 : Nat) : Int) - 1) = ((q : Nat) : Int) by omega]
      exact run_convert_float_int w _ _ _ _ _ _ (by rw [Try.underlying22]; rfl) Try.underlying2 (small_ints ⟨q, by omega⟩).2
    have HW := Lib.hid hw
    cases hg : (FloatKind.f32.format.order (fop .sub .f32 p (floatOfInt .f32 (m : Int))) 1048576000 == some .lt)
    · go_enter Try.func47, Try.ntmps47
      go_wp2_with (first | (go_at_call 65; refine (c_inside _ _ _ _).mono ?_; rintro e w' ⟨rfl, n1, rfl⟩) | (go_at_call 83; refine (c_Floor _ _ (by simp only [isNaN_nv, isNaN_up, hn])).mono ?_; rintro e w' ⟨t2, n2, rfl, rfl⟩))
      go_ret3
      refine ⟨m, HW.out, m2, ?_⟩
      rw [if_neg (by rw [hg]; decide)]
      exact .mk rfl (same1 _ _)
    · go_enter Try.func47, Try.ntmps47
      go_wp2_with (first | (go_at_call 65; refine (c_inside _ _ _ _).mono ?_; rintro e w' ⟨rfl, n1, rfl⟩) | (go_at_call 83; refine (c_Floor _ _ (by simp only [isNaN_nv, isNaN_up, hn])).mono ?_; rintro e w' ⟨t2, n2, rfl, rfl⟩))
      go_ret3
      refine ⟨m, HW.out, m2, ?_⟩
      rw [if_pos hg]
      exact .mk rfl (same1 _ _)

theorem c_sDelayParts (p : Nat) (w : World) (hp : p < 4294967296) : Calls Try.prog 46 #[.float .f32 p] w (DelayPost p w) := by
  unfold DelayPost
  cases h : insB p 1073741824 1148846080
  · simp only [Bool.false_eq_true, if_false]
    unfold insB at h
    cases hl : (FloatKind.f32.format.order p 1073741824 == some .gt || FloatKind.f32.format.order p 1073741824 == some .eq)
    all_goals
      rw [hl] at h
      try simp only [Bool.true_and] at h
      go_enter Try.func46, Try.ntmps46
      go_wp2
      go_ret3
      exact .raw rfl (same0 _)
  · simp only [if_true]
    obtain ⟨m, m1, m2, hn, hw⟩ := delay_facts hp h
    have ho : ovf (floatOfInt .f64 (m : Int)) = false := ovf_int (by omega)
    have hi : ∀ w, (convert 30 2 (.float .f64 (floatOfInt .f64 (m : Int)))).run Try.prog w = .ok (.int .i64 m) w := fun w =>
      run_convert_float_int w _ _ _ _ _ _ (by rw [Try.underlying30]; rfl) Try.underlying2 (toInt_int (by omega))
    have HW := Lib.hid hw
    unfold insB at h
    simp only [Bool.and_eq_true] at h
    obtain ⟨hl, hr⟩ := h
    cases hg : (FloatKind.f32.format.order (fop .sub .f32 p (floatOfInt .f32 (m : Int))) 1048576000 == some .lt)
    · go_enter Try.func46, Try.ntmps46
      go_wp2_with (go_at_call 83; refine (c_Floor _ _ (by simp only [isNaN_nv, isNaN_up, hn])).mono ?_; rintro e w' ⟨t2, n2, rfl, rfl⟩)
      go_ret3
      refine ⟨m, HW.out, m2, ?_⟩
      rw [if_neg (by rw [hg]; decide)]
      exact .mk rfl (same1 _ _)
    · go_enter Try.func46, Try.ntmps46
      go_wp2_with (go_at_call 83; refine (c_Floor _ _ (by simp only [isNaN_nv, isNaN_up, hn])).mono ?_; rintro e w' ⟨t2, n2, rfl, rfl⟩)
      go_ret3
      refine ⟨m, HW.out, m2, ?_⟩
      rw [if_pos hg]
      exact .mk rfl (same1 _ _)

theorem int_inj {m q : Nat} (hm : m < 2 ^ 53) (hq : q < 2 ^ 53) (h : floatOfInt .f64 (m : Int) = floatOfInt .f64 (q : Int)) : m = q := by
  have h1 := toInt_int hm
  have h2 := toInt_int hq
  rw [h, h2] at h1
  have := Option.some.inj h1
  omega
theorem l_DelayParts (p : Nat) (hp : p < 4294967296) (w : World) : Calls Try.prog 13 #[.float .f32 p] w (RetB true w) := by
  have hs := fun w => c_sDelayParts p w hp
  have hi := fun w => c_DelayParts p w hp
  cases h : insB p 1073741824 1148846080
  · simp only [DelayPost, h, Bool.false_eq_true, if_false] at hs hi
    have Hs := Lib.hid hs
    have Hi := Lib.hid hi
    clear hs hi h hp
    go_enter Try.func13, Try.ntmps13
    go_wp2_with (first | (go_at_call 46; refine (Hs.out _).mono ?_; rintro e w' ⟨t1, n1, rfl, rfl⟩) | (go_at_call 47; refine (Hi.out _).mono ?_; rintro e w' ⟨t2, n2, rfl, rfl⟩) | (go_at_call 21; refine (c_sameFloat _ _ _ _).mono ?_; rintro e w' ⟨rfl, n3, rfl⟩))
    go_ret
    exact ⟨rfl, same1 _ _⟩
  · obtain ⟨m, m1, m2, hn, hw⟩ := delay_facts hp h
    have key : ∀ (P : World → (Ending → World → Prop) → Prop), (∀ w, P w (DelayPost p w)) → (∀ w R R', P w R → (∀ e w', R e w' → R' e w') → P w R') → ∀ w, P w (fun e w' => if FloatKind.f32.format.order (fop .sub .f32 p (floatOfInt .f32 (m : Int))) 1048576000 == some .lt then RetIFI ((m : Int) - 1) (fop .sub .f32 p (floatOfInt .f32 ((m : Int) - 1))) 0 w e w' else RetIFI m (fop .sub .f32 p (floatOfInt .f32 (m : Int))) 0 w e w') := by
      intro P h1 h2 w
      refine h2 w _ _ (h1 w) fun e w' hd => ?_
      unfold DelayPost at hd
      rw [if_pos h] at hd
      obtain ⟨q, hq, hq2, hr⟩ := hd
      obtain rfl : m = q := int_inj (by omega) (by omega) (hw.symm.trans hq)
      exact hr
    have hs' := key (fun w R => Calls Try.prog 46 #[.float .f32 p] w R) hs fun w R R' h1 h2 => Calls.mono h1 h2
    have hi' := key (fun w R => Calls Try.prog 47 #[.float .f32 p] w R) hi fun w R R' h1 h2 => Calls.mono h1 h2
    clear hs hi key
    cases hg : (FloatKind.f32.format.order (fop .sub .f32 p (floatOfInt .f32 (m : Int))) 1048576000 == some .lt)
    all_goals
      simp only [hg, Bool.false_eq_true, if_false, if_true] at hs' hi'
      have Hs := Lib.hid hs'
      have Hi := Lib.hid hi'
      clear hs' hi' h hp hg hw hn m1 m2
      go_enter Try.func13, Try.ntmps13
      go_wp2_with (first | (go_at_call 46; refine (Hs.out _).mono ?_; rintro e w' ⟨t1, n1, rfl, rfl⟩) | (go_at_call 47; refine (Hi.out _).mono ?_; rintro e w' ⟨t2, n2, rfl, rfl⟩) | (go_at_call 21; refine (c_sameFloat _ _ _ _).mono ?_; rintro e w' ⟨rfl, n3, rfl⟩))
      go_ret
      exact ⟨rfl, same1 _ _⟩
end Go.Proofs.Ytjjpboiginccjaa
