
/-
Contracts of samples as short integers; flushed samples.
-/
import Derived.Test.YtmhgcflccaflpaaSz
namespace Go.Proofs.Ytmhgcflccaflpaa
open Go Go.RowKit Fl
theorem even_fn : ∃ fy : World → Nat → Nat × Nat, ∀ W x, isNaN .f64 x = true → isNaN .f64 (fy W x).1 = true ∧ (callFunc 23 #[.float .f64 x]).run Try.prog W = .ok (.value (.float .f64 (fy W x).1)) (W.drewN (fy W x).2) := by
  classical
  refine ⟨fun W x => if h : isNaN .f64 x = true then ((run_even_nan W x h).choose, (run_even_nan W x h).choose_spec.choose) else (0, 0), fun W x h => ?_⟩
  simp only [dif_pos h]
  exact (run_even_nan W x h).choose_spec.choose_spec
theorem c_ToShort (a : Nat) (w : World) (h : Wd a) : Calls Try.prog 8 #[.float .f32 a] w (RetI .i16 (shortOf a) w) := by
  cases hn : isNaN .f32 a
  · have ha : a < 4294967296 := by
      rcases h with h | h
      · rw [hn] at h; cases h
      · exact h
    obtain ⟨k1, k2, k3⟩ := xs_cases ha hn
    have e1 : ∀ t, nv .f64 (fop .mul .f64 (up a) 4674736413210574848) t = fop .mul .f64 (up a) 4674736413210574848 := fun t => nv_of t k1
    have e2 : ∀ W, (callFunc 23 #[.float .f64 (fop .mul .f64 (up a) 4674736413210574848)]).run Try.prog W = .ok (.value (.float .f64 (xs a))) W := fun W => x_even _ W k1
    have e3 := order_self .f64 _ k2
    clear k1 k2
    generalize xs a = X at *
    generalize shortOf a = K at *
    rcases k3 with ⟨g1, rfl⟩ | ⟨g1, g2, rfl⟩ | ⟨g1, g2, g3⟩
    case' inr.inr => have e4 : ∀ W, (convert 42 24 (.float .f64 X)).run Try.prog W = .ok (.int .i16 K) W := fun W => run_convert_float_int W _ _ _ _ _ _ (by rw [Try.underlying42]; rfl) Try.underlying24 g3
    all_goals
      go_enter Try.func8, Try.ntmps8
      go_wp2
      go_ret
      exact ⟨rfl, by first | exact same0 _ | exact same1 _ _⟩
  · obtain ⟨fy, hfy⟩ := even_fn
    have hx : ∀ t, isNaN .f64 (nv .f64 (fop .mul .f64 (up a) 4674736413210574848) t) = true := fun t => by rw [isNaN_nv]; exact xs_nan hn
    have e1 : ∀ W t, (callFunc 23 #[.float .f64 (nv .f64 (fop .mul .f64 (up a) 4674736413210574848) t)]).run Try.prog W = .ok (.value (.float .f64 (fy W (nv .f64 (fop .mul .f64 (up a) 4674736413210574848) t)).1)) (W.drewN (fy W (nv .f64 (fop .mul .f64 (up a) 4674736413210574848) t)).2) := fun W t => (hfy W _ (hx t)).2
    have e2 : ∀ W t, FloatKind.f64.format.order (fy W (nv .f64 (fop .mul .f64 (up a) 4674736413210574848) t)).1 (fy W (nv .f64 (fop .mul .f64 (up a) 4674736413210574848) t)).1 = none := fun W t => order_nan_left _ (hfy W _ (hx t)).1
    have hK : shortOf a = 0 := by unfold shortOf; rw [if_pos hn]
    rw [hK]
    clear hfy hx h hn hK
    go_enter Try.func8, Try.ntmps8
    go_wp2
    go_ret
    exact ⟨rfl, by first | exact same0 _ | exact same1 _ _⟩
theorem fsh_nan (n : Int) (h1 : -32768 ≤ n) (h2 : n ≤ 32767) : isNaN .f32 (fsh n) = false ∧ fsh n < 4294967296 := by
  refine ⟨?_, fop_lt _ _ _⟩
  rcases int_cases n with ⟨m, rfl⟩ | ⟨m, h0, rfl⟩
  · exact isNaN_pos (k := .f32) (by rw [e32]; have := (fsh_pos (m := m) (by omega)).1; omega)
  · rw [fsh_neg h0 (by omega)]
    exact isNaN_sg (fsh_pos (m := m) (by omega)).1
theorem c_FromShort (n : Int) (w : World) (h1 : -32768 ≤ n) (h2 : n ≤ 32767) : Calls Try.prog 9 #[.int .i16 n] w (fun e w' => e = .returned (.float .f32 (fsh n)) ∧ ∃ m, w' = w.drewN m) := by
  have e1 : ∀ t, nv .f32 (fop .quo .f32 (floatOfInt .f32 n) 1191182336) t = fsh n := fun t => nv_of t (fsh_nan n h1 h2).1
  go_enter Try.func9, Try.ntmps9
  go_wp2
  go_ret
  exact ⟨rfl, by first | exact same0 _ | exact same1 _ _⟩
def flu (a : Nat) : Nat := if FloatKind.f32.format.order (ab .f32 a) 8388608 == some .lt then 0 else a
theorem flu_idem (a : Nat) : flu (flu a) = flu a := by
  unfold flu
  split
  · rfl
  · rfl
theorem c_FlushSample (a : Nat) (w : World) : Calls Try.prog 10 #[.float .f32 a] w (fun e w' => e = .returned (.float .f32 (flu a)) ∧ ∃ m, w' = w.drewN m) := by
  cases h : (FloatKind.f32.format.order (ab .f32 a) 8388608 == some .lt)
  all_goals
    have hf : flu a = if (FloatKind.f32.format.order (ab .f32 a) 8388608 == some .lt) then 0 else a := rfl
    rw [h] at hf
    rw [hf]
    clear hf
    go_enter Try.func10, Try.ntmps10
    go_wp2_with (go_at_call 24; refine (c_absolute _ _).mono ?_; rintro e w' ⟨t1, n1, rfl, rfl⟩)
    go_ret
    exact ⟨rfl, by first | exact same0 _ | exact same1 _ _⟩
/-- what is flushed is the sample, or 0 of a very small one -/
theorem flu_cases {a : Nat} (h : Wd a) (hn : isNaN .f32 a = false) : flu a = a ∨ (flu a = 0 ∧ (FloatKind.f32.format.order a 953267991 == some .lt) = true ∧ (FloatKind.f32.format.order a 3100751639 == some .gt) = true) := by
  have ha : a < 4294967296 := by
    rcases h with h | h
    · rw [hn] at h; cases h
    · exact h
  unfold flu
  split
  · rename_i hs
    right
    refine ⟨rfl, ?_⟩
    have hsg : sg .f32 953267991 = 3100751639 := by decide
    have eab : ab .f32 a = a % 2147483648 := by unfold ab; rw [hn]; rfl
    rw [eab] at hs
    rcases word_cases ha with h | ⟨_, hp | rfl | ⟨b, hb, rfl⟩ | rfl⟩
    · rw [hn] at h; cases h
    · rw [Nat.mod_eq_of_lt (by omega), ord32 hp (by decide), beq_iff_eq] at hs
      have := Nat.compare_eq_lt.1 (Option.some.inj hs)
      rw [ord32 hp (by decide), ← hsg, order_pn2 hp (by decide) (by decide), Nat.compare_eq_lt.2 (by omega)]
      exact ⟨rfl, rfl⟩
    · exact absurd hs (by decide)
    · have es : sg .f32 b % 2147483648 = b := by unfold sg; rw [show FloatKind.f32.format.signWeight = 2147483648 by decide]; omega
      rw [es, ord32 hb (by decide), beq_iff_eq] at hs
      have := Nat.compare_eq_lt.1 (Option.some.inj hs)
      rw [order_np2 hb (by decide) (by decide), ← hsg, order_sg .f32 (by rw [e32]; exact hb) (by decide), ord32 (by decide) hb, Nat.compare_eq_gt.2 (by omega)]
      exact ⟨rfl, rfl⟩
    · exact absurd hs (by decide)
  · exact .inl rfl
/-- what is clamped to a half -/
theorem cla_cases (a : Nat) : (FloatKind.f32.format.order (clampF a 1056964608) 1056964608 == some .gt) = false ∧ (FloatKind.f32.format.order (clampF a 1056964608) 3204448256 == some .lt) = false := by
  have e : Op.negFloat .f32 1056964608 = 3204448256 := by decide
  unfold clampF
  rw [e]
  split
  · exact ⟨by decide, by decide⟩
  · rename_i h1
    split
    · exact ⟨by decide, by decide⟩
    · rename_i h2
      exact ⟨by simpa using h1, by simpa using h2⟩
theorem cla_idem (a : Nat) : clampF (clampF a 1056964608) 1056964608 = clampF a 1056964608 := by
  obtain ⟨h1, h2⟩ := cla_cases a
  have e : Op.negFloat .f32 1056964608 = 3204448256 := by decide
  generalize clampF a 1056964608 = c at *
  unfold clampF
  rw [e, if_neg (by rw [h1]; decide), if_neg (by rw [h2]; decide)]
end Go.Proofs.Ytmhgcflccaflpaa
