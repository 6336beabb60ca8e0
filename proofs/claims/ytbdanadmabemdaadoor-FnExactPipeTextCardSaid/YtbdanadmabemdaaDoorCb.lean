
/-
Contracts of the small tests, and of a gain.
-/
import Derived.Test.YtbdanadmabemdaaDoorCa
import Derived.Test.YtbdanadmabemdaaDoorNu
namespace Go.Proofs.YtbdanadmabemdaaDoor
open Go Go.RowKit Fl

def inB (n lo hi : Int) : Bool := decide (lo ≤ n) && decide (n ≤ hi)
theorem inB_yes {n lo hi : Int} (h : inB n lo hi = true) : lo ≤ n ∧ n ≤ hi := by unfold inB at h; simpa using h
theorem inB_no {n lo hi : Int} (h : inB n lo hi = false) : n < lo ∨ hi < n := by
  unfold inB at h
  by_cases h1 : lo ≤ n
  · by_cases h2 : n ≤ hi
    · rw [decide_eq_true h1, decide_eq_true h2] at h; cases h
    · right; omega
  · left; omega
def insB (a lo hi : Nat) : Bool := (FloatKind.f32.format.order a lo == some .gt || FloatKind.f32.format.order a lo == some .eq) && (FloatKind.f32.format.order a hi == some .lt || FloatKind.f32.format.order a hi == some .eq)
@[go_sem] theorem insB_nv (a t lo hi : Nat) : insB (nv .f32 a t) lo hi = insB a lo hi := by unfold insB; simp only [order_nvl]

theorem c_within (n lo hi : Int) (w : World) : Calls Tryd.prog 65 #[.int .i64 n, .int .i64 lo, .int .i64 hi] w (RetB (inB n lo hi) w) := by
  by_cases h1 : lo ≤ n
  · by_cases h2 : n ≤ hi
    · go_enter Tryd.func65, Tryd.ntmps65
      go_wp2
      go_ret
      exact ⟨by simp [inB, h1, h2], same0 _⟩
    · go_enter Tryd.func65, Tryd.ntmps65
      go_wp2
      go_ret
      exact ⟨by simp [inB, h2], same0 _⟩
  · go_enter Tryd.func65, Tryd.ntmps65
    go_wp2
    go_ret
    exact ⟨by rw [inB, decide_eq_false (Int.not_le.2 h1)]; rfl, same0 _⟩
theorem c_l00In (n lo hi : Int) (w : World) : Calls Tryd.prog 73 #[.int .i64 n, .int .i64 lo, .int .i64 hi] w (RetB (inB n lo hi) w) := by
  by_cases h1 : lo ≤ n
  · by_cases h2 : n ≤ hi
    · go_enter Tryd.func73, Tryd.ntmps73
      go_wp2
      go_ret
      exact ⟨by simp [inB, h1, h2], same0 _⟩
    · go_enter Tryd.func73, Tryd.ntmps73
      go_wp2
      go_ret
      exact ⟨by simp [inB, h2], same0 _⟩
  · go_enter Tryd.func73, Tryd.ntmps73
    go_wp2
    go_ret
    exact ⟨by rw [inB, decide_eq_false (Int.not_le.2 h1)]; rfl, same0 _⟩
theorem c_inside (a lo hi : Nat) (w : World) : Calls Tryd.prog 68 #[.float .f32 a, .float .f32 lo, .float .f32 hi] w (RetB (insB a lo hi) w) := by
  cases h : (FloatKind.f32.format.order a lo == some .gt || FloatKind.f32.format.order a lo == some .eq)
  all_goals
    go_enter Tryd.func68, Tryd.ntmps68
    go_wp2
    go_ret
    exact ⟨by simp [insB, h], same0 _⟩
def RetFI (b : Nat) (c : Int) (w : World) (e : Ending) (w' : World) : Prop := ∃ t n, e = .returned (.tuple #[.float .f32 (nv .f32 b t), .int .i64 c]) ∧ w' = w.drewN n
theorem RetFI.mk {b c t : Nat} {i : Int} {w w' : World} (h : b = c) (hw : ∃ n, w' = w.drewN n) : RetFI c i w (.returned (.tuple #[.float .f32 (nv .f32 b t), .int .i64 i])) w' := by
  obtain ⟨n, hn⟩ := hw; exact ⟨t, n, by rw [h], hn⟩
theorem RetFI.raw {b c : Nat} {i : Int} {w w' : World} (h : b = c) (hw : ∃ n, w' = w.drewN n) : RetFI c i w (.returned (.tuple #[.float .f32 b, .int .i64 i])) w' := by
  obtain ⟨n, hn⟩ := hw; exact ⟨0, n, by rw [h]; rfl, hn⟩

/-! ### the gain of a loop -/
def gainE (n : Int) (t : Nat) : Nat := fop .quo .f64 (fop .mul .f64 4619463459138379574 (floatOfInt .f64 n)) (up t)
def gainG (e : Nat) : Nat := fop .add .f64 (fop .sub .f64 4607182418800017408 e) (fop .quo .f64 (fop .mul .f64 e e) 4611686018427387904)
def gainF (n : Int) (t : Nat) : Nat := if FloatKind.f64.format.order (gainE n t) 4607182418800017408 == some .gt then 0 else down (gainG (gainE n t))

theorem inf64 : FloatKind.f64.format.infRung = 9218868437227405312 := by decide
theorem inf32 : FloatKind.f32.format.infRung = 2139095040 := by decide

theorem gain_small {e : Nat} (h : e ≤ 4607182418800017408) : ovf (gainG e) = false := by
  have h1 : fop .sub .f64 4607182418800017408 e ≤ 4607182418800017408 := fsub_le (by rw [inf64]; decide) h
  have h2 : fop .mul .f64 e e ≤ fop .mul .f64 4607182418800017408 4607182418800017408 := fmul_mono (by rw [inf64]; decide) (by rw [inf64]; decide) h h
  have h2' : fop .mul .f64 4607182418800017408 4607182418800017408 = 4607182418800017408 := by decide +kernel
  rw [h2'] at h2
  have h3 : fop .quo .f64 (fop .mul .f64 e e) 4611686018427387904 ≤ 4602678819172646912 := by
    refine fquo_le (Nat.lt_of_le_of_lt h2 (by rw [inf64]; decide)) (by rw [inf64]; decide) (by decide) ?_
    exact Nat.le_trans (Nat.mul_le_mul_right _ (v_le _ h2)) (by decide +kernel)
  have h4 : gainG e ≤ fop .add .f64 4607182418800017408 4602678819172646912 := fadd_mono (by rw [inf64]; decide) (by rw [inf64]; decide) h1 h3
  exact ovf_mono (X := 4609434218613702656) (by decide) (Nat.le_trans h4 (by decide +kernel)) (by decide +kernel)

theorem insB_range {a lo hi : Nat} (ha : a < 4294967296) (hlo : lo < 2139095040) (h0 : lo ≠ 0) (hhi : hi < 2139095040) (h : insB a lo hi = true) : lo ≤ a ∧ a ≤ hi := by
  unfold insB at h
  simp only [Bool.and_eq_true, Bool.or_eq_true, beq_iff_eq] at h
  obtain ⟨h1, h2⟩ := h
  have g := ge_of_order (k := .f32) ha (by rw [inf32]; exact hlo) h0 h1
  exact ⟨g.1, le_of_order g.2 (by rw [inf32]; exact hhi) h2⟩

theorem gain_e {n : Int} {t : Nat} (hn : inB n 1 1024 = true) (ht : t < 4294967296) (h : insB t 1065353216 1232348160 = true) : gainE n t ≤ FloatKind.f64.format.infRung := by
  obtain ⟨n1, n2⟩ := inB_yes hn
  obtain ⟨t1, t2⟩ := insB_range ht (by decide) (by decide) (by decide) h
  have u1 : up 1065353216 ≤ up t := up_mono (by have := inf32; exact Nat.lt_of_le_of_lt t2 (by decide)) t1
  have u2 : up t ≤ up 1232348160 := up_mono (by decide) t2
  have e1 : up 1065353216 = 4607182418800017408 := by decide +kernel
  have e2 : up 1232348160 = 4696837146684686336 := by decide +kernel
  have m1 : floatOfInt .f64 n ≤ floatOfInt .f64 1024 := floatOfInt_mono (by omega) n2
  have m2 : floatOfInt .f64 1024 = 4652218415073722368 := by decide +kernel
  have m3 : fop .mul .f64 4619463459138379574 (floatOfInt .f64 n) ≤ fop .mul .f64 4619463459138379574 4652218415073722368 := fmul_mono (by rw [inf64]; decide) (by rw [inf64]; decide) (Nat.le_refl _) (by omega)
  have m4 : fop .mul .f64 4619463459138379574 4652218415073722368 ≤ 4700000000000000000 := by decide +kernel
  unfold gainE
  exact fquo_inf (by rw [inf64]; omega) (by rw [inf64]; omega) (by omega)
theorem gain_ovf {n : Int} {t : Nat} (hn : inB n 1 1024 = true) (ht : t < 4294967296) (h : insB t 1065353216 1232348160 = true) (hg : (FloatKind.f64.format.order (gainE n t) 4607182418800017408 == some .gt) = false) : ovf (gainG (gainE n t)) = false :=
  gain_small (not_gt (gain_e hn ht h) (by rw [inf64]; decide) hg)

/-! ### friction -/
def friG (s d : Nat) : Nat :=
  fop .quo .f32 1065353216 (fop .mul .f32 (fop .mul .f32 (fop .add .f32 (ab .f32 (fop .mul .f32 s d)) 1061158912) (fop .add .f32 (ab .f32 (fop .mul .f32 s d)) 1061158912)) (fop .mul .f32 (fop .add .f32 (ab .f32 (fop .mul .f32 s d)) 1061158912) (fop .add .f32 (ab .f32 (fop .mul .f32 s d)) 1061158912)))
def friF (s d : Nat) : Nat := if FloatKind.f32.format.order (friG s d) 1065353216 == some .gt then 1065353216 else friG s d
theorem friF_nv (s d t : Nat) : friF s (nv .f32 d t) = friF s d := by unfold friF friG; simp only [fop_nvr]
end Go.Proofs.YtbdanadmabemdaaDoor
