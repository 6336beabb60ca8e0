
/-
Contracts of the best ratio.
-/
import Derived.Test.YtjjpboiginccjaaCc
import Derived.Test.YtjjpboiginccjaaBr
namespace Go.Proofs.Ytjjpboiginccjaa
open Go Go.RowKit Fl

def RetIII (i j c : Int) (w : World) (e : Ending) (w' : World) : Prop := e = .returned (.tuple #[.int .i64 i, .int .i64 j, .int .i64 c]) ∧ ∃ n, w' = w.drewN n

theorem c_isTerm (n : Int) (w : World) : Calls Try.prog 66 #[.int .i64 n] w (RetB (inB n 1 1000) w) := by
  go_enter Try.func66, Try.ntmps66
  go_wp2_with (go_at_call 57; refine (c_within _ _ _ _).mono ?_; rintro e w' ⟨rfl, n1, rfl⟩)
  go_ret
  exact ⟨rfl, same1 _ _⟩

theorem insB_split {a lo hi : Nat} (h : insB a lo hi = true) : (FloatKind.f32.format.order a lo = some .gt ∨ FloatKind.f32.format.order a lo = some .eq) ∧ (FloatKind.f32.format.order a hi = some .lt ∨ FloatKind.f32.format.order a hi = some .eq) := by
  unfold insB at h
  simpa only [Bool.and_eq_true, Bool.or_eq_true, beq_iff_eq] using h

/-- the relation of the loop -/
def BrRel (x : Nat) (w : World) (j : Nat) (p q l : Value) (wr : World) : Prop :=
  p = .int .i64 (brRun x j).1 ∧ q = .int .i64 (brRun x j).2.1 ∧ (∃ t, l = .float .f64 (nv .f64 (brRun x j).2.2 t)) ∧ ∃ n, wr = w.drewN n

theorem c_BestRatio (x : Nat) (m : Int) (w : World) (hx : x < 4294967296) :
    Calls Try.prog 32 #[.float .f32 x, .int .i64 m] w (if insB x 0 1148846080 && inB m 1 1000 then RetIII (brRun x m.toNat).1 (brRun x m.toNat).2.1 0 w else RetIII 0 0 2 w) := by
  cases h : insB x 0 1148846080
  · simp only [Bool.false_and, Bool.false_eq_true, if_false]
    go_enter Try.func32, Try.ntmps32
    go_wp2_with (go_at_call 65; refine (c_inside _ _ _ _).mono ?_; rintro e w' ⟨rfl, n1, rfl⟩)
    go_ret3
    exact ⟨rfl, same1 _ _⟩
  · cases hm : inB m 1 1000
    · simp only [Bool.and_false, Bool.false_eq_true, if_false]
      go_enter Try.func32, Try.ntmps32
      go_wp2_with (first | (go_at_call 65; refine (c_inside _ _ _ _).mono ?_; rintro e w' ⟨rfl, n1, rfl⟩) | (go_at_call 66; refine (c_isTerm _ _).mono ?_; rintro e w' ⟨rfl, n1, rfl⟩))
      go_ret3
      exact ⟨rfl, same1 _ _⟩
    · simp only [Bool.and_true, if_true]
      obtain ⟨hn, hf⟩ := br_facts hx (insB_split h)
      obtain ⟨b1, b2⟩ := inB_yes hm
      obtain ⟨M, rfl⟩ := Int.eq_ofNat_of_zero_le (show 0 ≤ m by omega)
      rw [Int.toNat_natCast]
      have HF := Lib.hid hf
      clear hf
      have hup' : ∀ t, nv .f64 (up x) t = up x := fun t => nv_of t (by rw [isNaN_up, hn])
      go_enter Try.func32, Try.ntmps32
      go_wp2_with (first | (go_at_call 65; refine (c_inside _ _ _ _).mono ?_; rintro e w' ⟨rfl, n1, rfl⟩) | (go_at_call 66; refine (c_isTerm _ _).mono ?_; rintro e w' ⟨rfl, n1, rfl⟩))
      go_loopw [8, 9, 10, 11] (fun p q l k wr => ∃ j : Nat, j ≤ M ∧ k = .int .i64 ((j : Int) + 1) ∧ BrRel x w j p q l wr) (fun _ _ _ k _ => (M + 1 - intOf k).toNat)
      case atStart => exact ⟨0, by omega, rfl, rfl, rfl, ⟨0, rfl⟩, same1 _ _⟩
      case round =>
        obtain ⟨j, hj, rfl, rfl, rfl, ⟨t, rfl⟩, n, rfl⟩ := hrel
        by_cases hlt : j < M
        · obtain ⟨hp, hi⟩ := HF.out j (by omega)
          have hpn : ∀ t, nv .f64 (fop .mul .f64 (up x) (floatOfInt .f64 ((j : Int) + 1))) t = brP x (j + 1) := fun t => nv_of t hp
          have hev : ∀ w, (callFunc 63 #[.float .f64 (brP x (j + 1))]).run Try.prog w = .ok (.value (.float .f64 (brN x (j + 1)))) w := fun w => x_even _ w hp
          have hcv : ∀ w, (convert 30 2 (.float .f64 (brN x (j + 1)))).run Try.prog w = .ok (.int .i64 (brI x (j + 1))) w := fun w =>
            run_convert_float_int w _ _ _ _ _ _ (by rw [Try.underlying30]; rfl) Try.underlying2 hi
          clear hp hi hn
          clear hx h hm
          by_cases h0 : j = 0
          · have hq : ((brRun x j).2.1 == 0) = true := by subst h0; rfl
            have H0 := Lib.hid h0
            clear h0
            go_wp2_with (go_at_call 64; refine (c_Abs _ _).mono ?_; rintro e w' ⟨t2, n2, rfl, rfl⟩)
            go_roundw
            case rel =>
              refine ⟨j + 1, by omega, by go_num, ?_⟩
              have e : brRun x (j + 1) = (brI x (j + 1), (j : Int) + 1, brD x (j + 1)) := by rw [brRun, if_pos (Or.inl H0.out)]
              exact ⟨by rw [e], by rw [e], ⟨t2, by rw [e]; rfl⟩, same1 _ _⟩
            case measure => simp [intOf]; omega
          · have hq : ((brRun x j).2.1 == 0) = false := by
              obtain ⟨q, rfl⟩ : ∃ q, j = q + 1 := ⟨j - 1, by omega⟩
              simpa using brRun_q x q
            have H0 := Lib.hid h0
            clear h0
            cases hd : (FloatKind.f64.format.order (ab .f64 (fop .sub .f64 (fop .quo .f64 (brN x (j + 1)) (floatOfInt .f64 ((j : Int) + 1))) (up x))) (brRun x j).2.2 == some .lt)
            · go_wp2_with (go_at_call 64; refine (c_Abs _ _).mono ?_; rintro e w' ⟨t2, n2, rfl, rfl⟩)
              go_roundw
              case rel =>
                refine ⟨j + 1, by omega, by go_num, ?_⟩
                have e : brRun x (j + 1) = brRun x j := by
                  rw [brRun, if_neg]
                  rintro (h | h)
                  · exact H0.out h
                  · unfold brD at h; rw [hd] at h; cases h
                exact ⟨by rw [e], by rw [e], ⟨t, by rw [e]⟩, same1 _ _⟩
              case measure => simp [intOf]; omega
            · go_wp2_with (go_at_call 64; refine (c_Abs _ _).mono ?_; rintro e w' ⟨t2, n2, rfl, rfl⟩)
              go_roundw
              case rel =>
                refine ⟨j + 1, by omega, by go_num, ?_⟩
                have e : brRun x (j + 1) = (brI x (j + 1), (j : Int) + 1, brD x (j + 1)) := by rw [brRun, if_pos (Or.inr (by unfold brD; exact hd))]
                exact ⟨by rw [e], by rw [e], ⟨t2, by rw [e]; rfl⟩, same1 _ _⟩
              case measure => simp [intOf]; omega
        · obtain rfl : j = M := by omega
          clear hx h hm b1 b2 hn
          go_wp2
          go_ret3
          exact ⟨rfl, same1 _ _⟩

theorem c_sBestRatio (x : Nat) (m : Int) (w : World) (hx : x < 4294967296) :
    Calls Try.prog 31 #[.float .f32 x, .int .i64 m] w (if insB x 0 1148846080 && inB m 1 1000 then RetIII (brRun x m.toNat).1 (brRun x m.toNat).2.1 0 w else RetIII 0 0 2 w) := by
  cases h : insB x 0 1148846080
  · simp only [Bool.false_and, Bool.false_eq_true, if_false]
    unfold insB at h
    cases hl : (FloatKind.f32.format.order x 0 == some .gt || FloatKind.f32.format.order x 0 == some .eq)
    all_goals
      rw [hl] at h
      try simp only [Bool.true_and] at h
      go_enter Try.func31, Try.ntmps31
      go_wp2
      go_ret3
      exact ⟨rfl, same0 _⟩
  · have h' := h
    unfold insB at h'
    simp only [Bool.and_eq_true] at h'
    obtain ⟨hl, hr⟩ := h'
    cases hm : inB m 1 1000
    · simp only [Bool.and_false, Bool.false_eq_true, if_false]
      clear h
      go_enter Try.func31, Try.ntmps31
      go_wp2_with (go_at_call 54; refine (c_l00In _ _ _ _).mono ?_; rintro e w' ⟨rfl, n1, rfl⟩)
      go_ret3
      exact ⟨rfl, same1 _ _⟩
    · simp only [Bool.and_true, if_true]
      obtain ⟨hn, hf⟩ := br_facts hx (insB_split h)
      obtain ⟨b1, b2⟩ := inB_yes hm
      obtain ⟨M, rfl⟩ := Int.eq_ofNat_of_zero_le (show 0 ≤ m by omega)
      rw [Int.toNat_natCast]
      have HF := Lib.hid hf
      clear hf h
      have hup' : ∀ t, nv .f64 (up x) t = up x := fun t => nv_of t (by rw [isNaN_up, hn])
      go_enter Try.func31, Try.ntmps31
      go_wp2_with (go_at_call 54; refine (c_l00In _ _ _ _).mono ?_; rintro e w' ⟨rfl, n1, rfl⟩)
      go_loopw [7, 8, 9, 10] (fun p q l k wr => ∃ j : Nat, j ≤ M ∧ k = .int .i64 ((j : Int) + 1) ∧ BrRel x w j p q l wr) (fun _ _ _ k _ => (M + 1 - intOf k).toNat)
      case atStart => exact ⟨0, by omega, rfl, rfl, rfl, ⟨0, rfl⟩, same1 _ _⟩
      case round =>
        obtain ⟨j, hj, rfl, rfl, rfl, ⟨t, rfl⟩, n, rfl⟩ := hrel
        by_cases hlt : j < M
        · obtain ⟨hp, hi⟩ := HF.out j (by omega)
          have hpn : ∀ t, nv .f64 (fop .mul .f64 (up x) (floatOfInt .f64 ((j : Int) + 1))) t = brP x (j + 1) := fun t => nv_of t hp
          have hev : ∀ w, (callFunc 63 #[.float .f64 (brP x (j + 1))]).run Try.prog w = .ok (.value (.float .f64 (brN x (j + 1)))) w := fun w => x_even _ w hp
          have hcv : ∀ w, (convert 30 2 (.float .f64 (brN x (j + 1)))).run Try.prog w = .ok (.int .i64 (brI x (j + 1))) w := fun w =>
            run_convert_float_int w _ _ _ _ _ _ (by rw [Try.underlying30]; rfl) Try.underlying2 hi
          clear hp hi hn hx hm hl hr
          by_cases h0 : j = 0
          · have hq : (((j : Int) + 1) == 1) = true := by subst h0; rfl
            have H0 := Lib.hid h0
            clear h0
            go_wp2_with (go_at_call 64; refine (c_Abs _ _).mono ?_; rintro e w' ⟨t2, n2, rfl, rfl⟩)
            go_roundw
            case rel =>
              refine ⟨j + 1, by omega, by go_num, ?_⟩
              have e : brRun x (j + 1) = (brI x (j + 1), (j : Int) + 1, brD x (j + 1)) := by rw [brRun, if_pos (Or.inl H0.out)]
              exact ⟨by rw [e], by rw [e], ⟨t2, by rw [e]; rfl⟩, same1 _ _⟩
            case measure => simp [intOf]; omega
          · have hq : (((j : Int) + 1) == 1) = false := by
              simp only [beq_eq_false_iff_ne]; omega
            have H0 := Lib.hid h0
            clear h0
            cases hd : (FloatKind.f64.format.order (ab .f64 (fop .sub .f64 (fop .quo .f64 (brN x (j + 1)) (floatOfInt .f64 ((j : Int) + 1))) (up x))) (brRun x j).2.2 == some .lt)
            · go_wp2_with (go_at_call 64; refine (c_Abs _ _).mono ?_; rintro e w' ⟨t2, n2, rfl, rfl⟩)
              go_roundw
              case rel =>
                refine ⟨j + 1, by omega, by go_num, ?_⟩
                have e : brRun x (j + 1) = brRun x j := by
                  rw [brRun, if_neg]
                  rintro (h | h)
                  · exact H0.out h
                  · unfold brD at h; rw [hd] at h; cases h
                exact ⟨by rw [e], by rw [e], ⟨t, by rw [e]⟩, same1 _ _⟩
              case measure => simp [intOf]; omega
            · go_wp2_with (go_at_call 64; refine (c_Abs _ _).mono ?_; rintro e w' ⟨t2, n2, rfl, rfl⟩)
              go_roundw
              case rel =>
                refine ⟨j + 1, by omega, by go_num, ?_⟩
                have e : brRun x (j + 1) = (brI x (j + 1), (j : Int) + 1, brD x (j + 1)) := by rw [brRun, if_pos (Or.inr (by unfold brD; exact hd))]
                exact ⟨by rw [e], by rw [e], ⟨t2, by rw [e]; rfl⟩, same1 _ _⟩
              case measure => simp [intOf]; omega
        · obtain rfl : j = M := by omega
          clear hx hm b1 b2 hn
          go_wp2
          go_ret3
          exact ⟨rfl, same1 _ _⟩

theorem l_BestRatio (x : Nat) (hx : x < 4294967296) (m : Int) (w : World) : Calls Try.prog 9 #[.float .f32 x, .int .i64 m] w (RetB true w) := by
  have hs := fun w => c_sBestRatio x m w hx
  have hi := fun w => c_BestRatio x m w hx
  generalize (brRun x m.toNat).1 = a at *
  generalize (brRun x m.toNat).2.1 = b at *
  cases hb : insB x 0 1148846080 && inB m 1 1000
  all_goals
    simp only [hb, Bool.false_eq_true, if_false, if_true] at hs hi
    have Hs := Lib.hid hs
    have Hi := Lib.hid hi
    clear hs hi hb
    go_enter Try.func9, Try.ntmps9
    go_wp2_with (first | (go_at_call 31; refine (Hs.out _).mono ?_; rintro e w' ⟨rfl, n1, rfl⟩) | (go_at_call 32; refine (Hi.out _).mono ?_; rintro e w' ⟨rfl, n2, rfl⟩))
    go_ret
    exact ⟨rfl, same1 _ _⟩
end Go.Proofs.Ytjjpboiginccjaa
