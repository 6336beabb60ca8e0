
/-
Is a filter still.
-/
import Derived.Test.YtjjpboiginccjaaDf
namespace Go.Proofs.Ytjjpboiginccjaa
open Go Go.RowKit Fl

def zeroB (a : Nat) : Bool := FloatKind.f32.format.order a 0 == some .eq
def stillB (s0 s1 : Nat) : Bool := zeroB s0 && zeroB s1
theorem c_l02Still (b o s0 s1 : Nat) (w : World) (h0 : w.cell? ⟨b, o + 4, none⟩ = some (.float .f32 s0)) (h1 : w.cell? ⟨b, o + 4 + 1, none⟩ = some (.float .f32 s1)) :
    Calls Try.prog 78 #[.pointer (some ⟨b, o, none⟩)] w (RetB (stillB s0 s1) w) := by
  have h1' : w.cell? ⟨b, o + 5, none⟩ = some (.float .f32 s1) := h1
  unfold stillB zeroB
  cases hz : (FloatKind.f32.format.order s0 0 == some .eq)
  all_goals
    go_enter Try.func78, Try.ntmps78
    go_wp2
    go_ret
    exact ⟨by simp, same0 _⟩
theorem c_isStill (k : Int) (c0 c1 c2 s0 s1 : Nat) (w : World) :
    Calls Try.prog 82 #[.agg #[.int .i64 k, .float .f32 c0, .float .f32 c1, .float .f32 c2, .float .f32 s0, .float .f32 s1]] w (RetBA (stillB s0 s1) w) := by
  unfold stillB zeroB
  cases hz : (FloatKind.f32.format.order s0 0 == some .eq)
  all_goals
    go_enter Try.func82, Try.ntmps82
    go_wp2
    go_ret
    exact ⟨by simp, by (repeat (first | (with_reducible refine Below.drewN ?_) | (with_reducible refine Below.drew ?_) | ((with_reducible refine Below.alloc ?_ ?_ _); rotate_left; (simp <;> omega)) | ((with_reducible refine Below.setCell ?_ ?_ _); rotate_left; (simp <;> omega)) | (with_reducible exact Below.refl _ _) | (with_reducible assumption)))⟩
theorem c_toFloat32A3 (x0 x1 x2 : Nat) (w : World) : Calls Try.prog 79 #[.agg #[.float .f32 x0, .float .f32 x1, .float .f32 x2]] w (RetV (.agg #[.float .f32 x0, .float .f32 x1, .float .f32 x2]) w) := by
  go_enter Try.func79, Try.ntmps79
  go_wp2
  refine wp_loop_rounds 4 ?_
  iterate 3 (rw [rounds_succ]; go_wp2)
  rw [rounds_succ]
  go_wp2
  exact bodyPost_ret (v := .agg #[.float .f32 x0, .float .f32 x1, .float .f32 x2]) (by simp [results, Try.results79, go_sem]) rfl ⟨rfl, by (repeat (first | (with_reducible refine Below.drewN ?_) | (with_reducible refine Below.drew ?_) | ((with_reducible refine Below.alloc ?_ ?_ _); rotate_left; (simp <;> omega)) | ((with_reducible refine Below.setCell ?_ ?_ _); rotate_left; (simp <;> omega)) | (with_reducible exact Below.refl _ _) | (with_reducible assumption)))⟩
theorem c_toFloat32A2 (x0 x1 : Nat) (w : World) : Calls Try.prog 80 #[.agg #[.float .f32 x0, .float .f32 x1]] w (RetV (.agg #[.float .f32 x0, .float .f32 x1]) w) := by
  go_enter Try.func80, Try.ntmps80
  go_wp2
  refine wp_loop_rounds 3 ?_
  iterate 2 (rw [rounds_succ]; go_wp2)
  rw [rounds_succ]
  go_wp2
  exact bodyPost_ret (v := .agg #[.float .f32 x0, .float .f32 x1]) (by simp [results, Try.results80, go_sem]) rfl ⟨rfl, by (repeat (first | (with_reducible refine Below.drewN ?_) | (with_reducible refine Below.drew ?_) | ((with_reducible refine Below.alloc ?_ ?_ _); rotate_left; (simp <;> omega)) | ((with_reducible refine Below.setCell ?_ ?_ _); rotate_left; (simp <;> omega)) | (with_reducible exact Below.refl _ _) | (with_reducible assumption)))⟩
def filV (k : Int) (c0 c1 c2 s0 s1 : Nat) : Value := .agg #[.int .i64 k, .float .f32 c0, .float .f32 c1, .float .f32 c2, .float .f32 s0, .float .f32 s1]
theorem c_toFilter (k : Int) (c0 c1 c2 s0 s1 : Nat) (w : World) :
    Calls Try.prog 44 #[.agg #[.int .i64 k, .float .f32 c0, .float .f32 c1, .float .f32 c2, .float .f32 s0, .float .f32 s1]] w (RetV (.agg #[.int .i64 k, .float .f32 c0, .float .f32 c1, .float .f32 c2, .float .f32 s0, .float .f32 s1]) w) := by
  go_enter Try.func44, Try.ntmps44
  go_wp2_with fail
  refine (c_toFloat32A3 _ _ _ _).mono ?_
  rintro e w1 ⟨rfl, hb1⟩
  obtain ⟨hc1, hf1, hz1⟩ := bcell hb1
  have z1 : w.heap.size < w1.heap.size ∧ w.heap.size + 1 < w1.heap.size ∧ w.heap.size + 1 + 1 < w1.heap.size := by simp at hz1; omega
  obtain ⟨z1, z2, z3⟩ := z1
  go_wp2_with fail
  refine (c_toFloat32A2 _ _ _).mono ?_
  rintro e w2 ⟨rfl, hb2⟩
  obtain ⟨hc2, hf2, hz2⟩ := bcell hb2
  have y1 : w.heap.size < w2.heap.size ∧ w.heap.size + 1 < w2.heap.size ∧ w.heap.size + 1 + 1 < w2.heap.size := by simp at hz2; omega
  obtain ⟨y1, y2, y3⟩ := y1
  go_wp2
  refine bodyPost_ret (v := ?v) (by simp [results, Try.results44, go_sem, *]; rfl) rfl ?_
  refine ⟨rfl, ?_⟩
  have b1 : Below w.heap.size w w1 := Below.trans (by (repeat (first | (with_reducible refine Below.drewN ?_) | (with_reducible refine Below.drew ?_) | ((with_reducible refine Below.alloc ?_ ?_ _); rotate_left; (simp <;> omega)) | ((with_reducible refine Below.setCell ?_ ?_ _); rotate_left; (simp <;> omega)) | (with_reducible exact Below.refl _ _) | (with_reducible assumption)))) (hb1.mono (by simp <;> omega))
  have b2 : Below w.heap.size w w2 := Below.trans (by (repeat (first | (with_reducible refine Below.drewN ?_) | (with_reducible refine Below.drew ?_) | ((with_reducible refine Below.alloc ?_ ?_ _); rotate_left; (simp <;> omega)) | ((with_reducible refine Below.setCell ?_ ?_ _); rotate_left; (simp <;> omega)) | (with_reducible exact Below.refl _ _) | (with_reducible assumption)))) (hb2.mono (by simp <;> omega))
  (repeat (first | (with_reducible refine Below.drewN ?_) | (with_reducible refine Below.drew ?_) | ((with_reducible refine Below.alloc ?_ ?_ _); rotate_left; (simp <;> omega)) | ((with_reducible refine Below.setCell ?_ ?_ _); rotate_left; (simp <;> omega)) | (with_reducible exact Below.refl _ _) | (with_reducible assumption)))

def RetBI (b : Bool) (i : Int) (w : World) (e : Ending) (w' : World) : Prop := e = .returned (.tuple #[.bool b, .int .i64 i]) ∧ Below w.heap.size w w'
theorem c_sIsStill (k : Int) (c0 c1 c2 s0 s1 : Nat) (w : World) :
    Calls Try.prog 43 #[.agg #[.int .i64 k, .float .f32 c0, .float .f32 c1, .float .f32 c2, .float .f32 s0, .float .f32 s1]] w (if okF k [c0, c1, c2] [s0, s1] then RetBI (stillB s0 s1) 0 w else RetBI false 1 w) := by
  have hok : ∀ n, Calls Try.prog 77 #[.pointer (some ⟨w.heap.size, 0, none⟩)] ((w.alloc (.cells #[.int .i64 k, .float .f32 c0, .float .f32 c1, .float .f32 c2, .float .f32 s0, .float .f32 s1] 67)).drewN n) (RetB (okF k [c0, c1, c2] [s0, s1]) ((w.alloc (.cells #[.int .i64 k, .float .f32 c0, .float .f32 c1, .float .f32 c2, .float .f32 s0, .float .f32 s1] 67)).drewN n)) := fun n =>
    c_l02Ok _ _ k [c0, c1, c2] [s0, s1] _ (by simp) (three _ (by simp [nth]) (by simp [nth]) (by simp [nth])) (two _ (by simp [nth]) (by simp [nth]))
  have hst : ∀ n, Calls Try.prog 78 #[.pointer (some ⟨w.heap.size, 0, none⟩)] ((w.alloc (.cells #[.int .i64 k, .float .f32 c0, .float .f32 c1, .float .f32 c2, .float .f32 s0, .float .f32 s1] 67)).drewN n) (RetB (stillB s0 s1) ((w.alloc (.cells #[.int .i64 k, .float .f32 c0, .float .f32 c1, .float .f32 c2, .float .f32 s0, .float .f32 s1] 67)).drewN n)) := fun n =>
    c_l02Still _ _ s0 s1 _ (by simp) (by simp)
  have HO := Lib.hid hok
  have HS := Lib.hid hst
  clear hok hst
  cases hk : okF k [c0, c1, c2] [s0, s1]
  · rw [hk] at HO
    simp only [Bool.false_eq_true, if_false]
    clear hk
    go_enter Try.func43, Try.ntmps43
    go_wp2_with (go_at_call 77; refine (HO.out 0).mono ?_; rintro e w' ⟨rfl, n1, rfl⟩)
    go_ret2
    exact ⟨rfl, by (repeat (first | (with_reducible refine Below.drewN ?_) | (with_reducible refine Below.drew ?_) | ((with_reducible refine Below.alloc ?_ ?_ _); rotate_left; (simp <;> omega)) | ((with_reducible refine Below.setCell ?_ ?_ _); rotate_left; (simp <;> omega)) | (with_reducible exact Below.refl _ _) | (with_reducible assumption)))⟩
  · rw [hk] at HO
    simp only [if_true]
    clear hk
    go_enter Try.func43, Try.ntmps43
    go_wp2_with (first | (go_at_call 77; refine (HO.out 0).mono ?_; rintro e w' ⟨rfl, n1, rfl⟩) | (go_at_call 78; refine (HS.out _).mono ?_; rintro e w' ⟨rfl, n2, rfl⟩))
    go_ret2
    exact ⟨rfl, by (repeat (first | (with_reducible refine Below.drewN ?_) | (with_reducible refine Below.drew ?_) | ((with_reducible refine Below.alloc ?_ ?_ _); rotate_left; (simp <;> omega)) | ((with_reducible refine Below.setCell ?_ ?_ _); rotate_left; (simp <;> omega)) | (with_reducible exact Below.refl _ _) | (with_reducible assumption)))⟩
theorem c_IsStill (k : Int) (c0 c1 c2 s0 s1 : Nat) (w : World) :
    Calls Try.prog 45 #[.agg #[.int .i64 k, .float .f32 c0, .float .f32 c1, .float .f32 c2, .float .f32 s0, .float .f32 s1]] w (if okF k [c0, c1, c2] [s0, s1] then RetBI (stillB s0 s1) 0 w else RetBI false 1 w) := by
  have hv := fun w => c_ValidFilter k c0 c1 c2 s0 s1 w
  have HV := Lib.hid hv
  clear hv
  cases hk : okF k [c0, c1, c2] [s0, s1]
  · rw [hk] at HV
    simp only [Bool.false_eq_true, if_false]
    clear hk
    go_enter Try.func45, Try.ntmps45
    go_wp2_with (go_at_call 81; refine (HV.out _).mono ?_; rintro e w1 ⟨rfl, hb1⟩)
    go_ret2
    exact ⟨rfl, Below.trans (by (repeat (first | (with_reducible refine Below.drewN ?_) | (with_reducible refine Below.drew ?_) | ((with_reducible refine Below.alloc ?_ ?_ _); rotate_left; (simp <;> omega)) | ((with_reducible refine Below.setCell ?_ ?_ _); rotate_left; (simp <;> omega)) | (with_reducible exact Below.refl _ _) | (with_reducible assumption)))) (hb1.mono (by simp <;> omega))⟩
  · rw [hk] at HV
    simp only [if_true]
    clear hk
    go_enter Try.func45, Try.ntmps45
    go_wp2_with fail
    refine (HV.out _).mono ?_
    rintro e w1 ⟨rfl, hb1⟩
    obtain ⟨hc1, hf1, hz1⟩ := bcell hb1
    go_wp2_with (go_at_call 82; refine (c_isStill _ _ _ _ _ _ _).mono ?_; rintro e w2 ⟨rfl, hb2⟩)
    go_ret2
    have b1 : Below w.heap.size w w1 := Below.trans (by (repeat (first | (with_reducible refine Below.drewN ?_) | (with_reducible refine Below.drew ?_) | ((with_reducible refine Below.alloc ?_ ?_ _); rotate_left; (simp <;> omega)) | ((with_reducible refine Below.setCell ?_ ?_ _); rotate_left; (simp <;> omega)) | (with_reducible exact Below.refl _ _) | (with_reducible assumption)))) (hb1.mono (by simp <;> omega))
    exact ⟨rfl, Below.trans (by (repeat (first | (with_reducible refine Below.drewN ?_) | (with_reducible refine Below.drew ?_) | ((with_reducible refine Below.alloc ?_ ?_ _); rotate_left; (simp <;> omega)) | ((with_reducible refine Below.setCell ?_ ?_ _); rotate_left; (simp <;> omega)) | (with_reducible exact Below.refl _ _) | (with_reducible assumption)))) (hb2.mono (by simp at hz1 <;> omega))⟩
theorem l_IsStill (k : Int) (c0 c1 c2 s0 s1 : Nat) (w : World) : Calls Try.prog 12 #[.agg #[.int .i64 k, .float .f32 c0, .float .f32 c1, .float .f32 c2, .float .f32 s0, .float .f32 s1]] w (RetV (.bool true) w) := by
  have hs := fun w => c_sIsStill k c0 c1 c2 s0 s1 w
  have hi := fun w => c_IsStill k c0 c1 c2 s0 s1 w
  cases hk : okF k [c0, c1, c2] [s0, s1]
  all_goals
    simp only [hk, Bool.false_eq_true, if_false, if_true] at hs hi
    have HS := Lib.hid hs
    have HI := Lib.hid hi
    clear hs hi hk
    go_enter Try.func12, Try.ntmps12
    go_wp2_with fail
    refine (c_toFilter _ _ _ _ _ _ _).mono ?_
    rintro e w1 ⟨rfl, hb1⟩
    obtain ⟨hc1, hf1, hz1⟩ := bcell hb1
    have z1 : w.heap.size < w1.heap.size := by simp at hz1; omega
    go_wp2_with fail
    refine (HS.out _).mono ?_
    rintro e w2 ⟨rfl, hb2⟩
    obtain ⟨hc2, hf2, hz2⟩ := bcell hb2
    have z2 : w.heap.size < w2.heap.size := by omega
    go_wp2_with fail
    refine (c_toFilter _ _ _ _ _ _ _).mono ?_
    rintro e w3 ⟨rfl, hb3⟩
    obtain ⟨hc3, hf3, hz3⟩ := bcell hb3
    have z3 : w.heap.size < w3.heap.size := by omega
    go_wp2_with fail
    refine (HI.out _).mono ?_
    rintro e w4 ⟨rfl, hb4⟩
    cases hsb : stillB s0 s1
    all_goals
      go_wp2
      go_ret
      have b1 : Below w.heap.size w w1 := Below.trans (by (repeat (first | (with_reducible refine Below.drewN ?_) | (with_reducible refine Below.drew ?_) | ((with_reducible refine Below.alloc ?_ ?_ _); rotate_left; (simp <;> omega)) | ((with_reducible refine Below.setCell ?_ ?_ _); rotate_left; (simp <;> omega)) | (with_reducible exact Below.refl _ _) | (with_reducible assumption)))) (hb1.mono (by simp <;> omega))
      exact ⟨rfl, ((b1.trans (hb2.mono (by omega))).trans (hb3.mono (by omega))).trans (hb4.mono (by omega))⟩
end Go.Proofs.Ytjjpboiginccjaa
