
/-
Contracts of combs.
-/
import Derived.Test.YtdhiihmfgmempaaSn
namespace Go.Proofs.Ytdhiihmfgmempaa
open Go Go.RowKit Fl

theorem wf_zero (n : Nat) : (List.replicate n 0).length = n := by simp
/-- a new ring of silence -/
def NewR (n : Nat) (w : World) (v : Value → Value) (e : Ending) (w' : World) : Prop :=
  ∃ g, e = .returned (v (.slice (some ⟨g, 0, none⟩) n n)) ∧ Below w.heap.size w w' ∧ w.heap.size ≤ g ∧ g < w'.heap.size ∧ OF w' g (some ⟨g, 0, none⟩) n n (List.replicate n 0)
theorem c_szComb_ok (a1 : Option Addr) (n1 c1 : Nat) (i1 : Int) (x1 : Nat) (left : Int) (w : World) (h0 : 0 ≤ left) (h1 : left ≤ 1048576) (m1 : n1 ≤ 9223372036854775807) (h : (n1 : Int) ≤ left) :
    Calls Try.prog 32 #[.agg #[.slice a1 n1 c1, .int .i64 i1, .float .f32 x1], .int .i64 left] w (RetV (.int .i64 (left - n1)) w) := by
  go_enter Try.func32, Try.ntmps32
  go_wp2_with fail
  refine (c_szRing_ok a1 n1 c1 i1 (left) _ (by omega) (by omega) m1 (by omega)).mono ?_
  rintro e w1 ⟨rfl, hb1⟩
  obtain ⟨hc1, hf1, hz1⟩ := bcell hb1
  have g1 : ¬ (left - n1) < 0 := by omega
  try simp at hz1
  have zb1 : w.heap.size ≤ w1.heap.size := by omega
  try (have z1_0 : w.heap.size < w1.heap.size := by omega)
  try (have z1_1 : w.heap.size + 1 < w1.heap.size := by omega)
  try (have z1_2 : w.heap.size + 1 + 1 < w1.heap.size := by omega)
  try (have z1_3 : w.heap.size + 1 + 1 + 1 < w1.heap.size := by omega)
  go_wp2
  go_ret
  have b1 : Below w.heap.size w w1 := Below.trans (by (repeat (first | (with_reducible refine Below.drewN ?_) | (with_reducible refine Below.drew ?_) | ((with_reducible refine Below.alloc ?_ ?_ _); rotate_left; (first | omega | (simp <;> omega))) | ((with_reducible refine Below.setCell ?_ ?_ _); rotate_left; (first | omega | (simp <;> omega))) | (with_reducible exact Below.refl _ _) | (with_reducible assumption)))) (hb1.mono (by first | omega | (simp <;> omega)))
  exact ⟨rfl, b1⟩
theorem c_szComb_no (a1 : Option Addr) (n1 c1 : Nat) (i1 : Int) (x1 : Nat) (left : Int) (w : World) (h0 : 0 ≤ left) (h1 : left ≤ 1048576) (m1 : n1 ≤ 9223372036854775807) (h : left < (n1 : Int)) :
    Calls Try.prog 32 #[.agg #[.slice a1 n1 c1, .int .i64 i1, .float .f32 x1], .int .i64 left] w (RetV (.int .i64 (-1)) w) := by
  go_enter Try.func32, Try.ntmps32
  go_wp2_with fail
  refine (c_szRing_no a1 n1 c1 i1 (left) _ (by omega) (by omega) m1 (by omega)).mono ?_
  rintro e w1 ⟨rfl, hb1⟩
  obtain ⟨hc1, hf1, hz1⟩ := bcell hb1
  go_wp2
  go_ret
  have b1 : Below w.heap.size w w1 := Below.trans (by (repeat (first | (with_reducible refine Below.drewN ?_) | (with_reducible refine Below.drew ?_) | ((with_reducible refine Below.alloc ?_ ?_ _); rotate_left; (first | omega | (simp <;> omega))) | ((with_reducible refine Below.setCell ?_ ?_ _); rotate_left; (first | omega | (simp <;> omega))) | (with_reducible exact Below.refl _ _) | (with_reducible assumption)))) (hb1.mono (by first | omega | (simp <;> omega)))
  exact ⟨rfl, b1⟩
theorem c_toComb' (a1 : Option Addr) (n1 c1 : Nat) (xs1 : List Nat) (i1 : Int) (x1 : Nat) (w : World) (h1 : FS w a1 n1 c1 xs1) (m1 : n1 ≤ 1048576) :
    Calls Try.prog 34 #[.agg #[.slice a1 n1 c1, .int .i64 i1, .float .f32 x1]] w (fun e w' => ∃ g1, e = .returned (.agg #[.slice (some ⟨g1, 0, none⟩) n1 n1, .int .i64 i1, .float .f32 x1]) ∧ Below w.heap.size w w' ∧ w.heap.size ≤ g1 ∧ g1 < w'.heap.size ∧ OF w' g1 (some ⟨g1, 0, none⟩) n1 n1 xs1) := by
  have H1 := Lib.hid h1
  clear h1
  go_enter Try.func34, Try.ntmps34
  go_wp2_with fail
  refine (c_toRing' a1 n1 c1 xs1 i1 _ (FS.below (B := w.heap.size) H1.out (by (repeat (first | (with_reducible refine Below.drewN ?_) | (with_reducible refine Below.drew ?_) | ((with_reducible refine Below.alloc ?_ ?_ _); rotate_left; (first | omega | (simp <;> omega))) | ((with_reducible refine Below.setCell ?_ ?_ _); rotate_left; (first | omega | (simp <;> omega))) | (with_reducible exact Below.refl _ _) | (with_reducible assumption)))) (Nat.le_refl _)) m1).mono ?_
  rintro e w1 ⟨g1, rfl, hb1, hg1, hs1, of1_1⟩
  obtain ⟨hc1, hf1, hz1⟩ := bcell hb1
  try simp at hz1
  have zb1 : w.heap.size ≤ w1.heap.size := by omega
  try (have z1_0 : w.heap.size < w1.heap.size := by omega)
  try (have z1_1 : w.heap.size + 1 < w1.heap.size := by omega)
  try (have z1_2 : w.heap.size + 1 + 1 < w1.heap.size := by omega)
  try (have z1_3 : w.heap.size + 1 + 1 + 1 < w1.heap.size := by omega)
  have b1 : Below w.heap.size w w1 := Below.trans (by (repeat (first | (with_reducible refine Below.drewN ?_) | (with_reducible refine Below.drew ?_) | ((with_reducible refine Below.alloc ?_ ?_ _); rotate_left; (first | omega | (simp <;> omega))) | ((with_reducible refine Below.setCell ?_ ?_ _); rotate_left; (first | omega | (simp <;> omega))) | (with_reducible exact Below.refl _ _) | (with_reducible assumption)))) (hb1.mono (by first | omega | (simp <;> omega)))
  try simp at hg1
  have L1_1 : g1 < w1.heap.size := by first | assumption | omega
  go_wp2
  refine bodyPost_ret (v := ?v) (by simp [results, Try.results34, go_sem, *] <;> rfl) rfl ?_
  refine ⟨g1, rfl, by (repeat (first | (with_reducible refine Below.drewN ?_) | (with_reducible refine Below.drew ?_) | ((with_reducible refine Below.alloc ?_ ?_ _); rotate_left; (first | omega | (simp <;> omega))) | ((with_reducible refine Below.setCell ?_ ?_ _); rotate_left; (first | omega | (simp <;> omega))) | (with_reducible exact Below.refl _ _) | (with_reducible assumption))), by omega, by (simp <;> omega), by (repeat (first | (with_reducible assumption) | (with_reducible refine OF.draw ?_) | (with_reducible exact OF.made' (by simp) (by simp) (by omega)) | (with_reducible refine OF.alloc ?_ _) | ((with_reducible refine OF.setCell ?_ ?_ _); rotate_left; (first | omega | (simp <;> omega)))))⟩
theorem c_eqComb' (a1 d1 : Option Addr) (n1 c1 e1 : Nat) (xs1 ys1 : List Nat) (i1 : Int) (x1 y1 : Nat) (w : World) (h1 : FS w a1 n1 c1 xs1) (j1 : FS w d1 n1 e1 ys1) (l1 : Alk xs1 ys1) (v1 : up y1 = up x1) :
    Calls Try.prog 36 #[.agg #[.slice a1 n1 c1, .int .i64 i1, .float .f32 x1], .agg #[.slice d1 n1 e1, .int .i64 i1, .float .f32 y1]] w (RetV (.bool true) w) := by
  have H1 := Lib.hid h1
  have J1 := Lib.hid j1
  have L1 := Lib.hid l1
  clear h1 j1 l1
  go_enter Try.func36, Try.ntmps36
  go_wp2_with (go_at_call 39; refine (c_sameFloat _ _ _ _).mono ?_; rintro e w' ⟨rfl, n3, rfl⟩)
  refine (c_eqRing' _ _ _ _ _ _ _ _ _ (FS.below (B := w.heap.size) H1.out (by (repeat (first | (with_reducible refine Below.drewN ?_) | (with_reducible refine Below.drew ?_) | ((with_reducible refine Below.alloc ?_ ?_ _); rotate_left; (first | omega | (simp <;> omega))) | ((with_reducible refine Below.setCell ?_ ?_ _); rotate_left; (first | omega | (simp <;> omega))) | (with_reducible exact Below.refl _ _) | (with_reducible assumption)))) (Nat.le_refl _)) (FS.below (B := w.heap.size) J1.out (by (repeat (first | (with_reducible refine Below.drewN ?_) | (with_reducible refine Below.drew ?_) | ((with_reducible refine Below.alloc ?_ ?_ _); rotate_left; (first | omega | (simp <;> omega))) | ((with_reducible refine Below.setCell ?_ ?_ _); rotate_left; (first | omega | (simp <;> omega))) | (with_reducible exact Below.refl _ _) | (with_reducible assumption)))) (Nat.le_refl _)) L1.out).mono ?_
  rintro e w1 ⟨rfl, hb1⟩
  obtain ⟨hc1, hf1, hz1⟩ := bcell hb1
  try simp at hz1
  have zb1 : w.heap.size ≤ w1.heap.size := by omega
  try (have z1_0 : w.heap.size < w1.heap.size := by omega)
  try (have z1_1 : w.heap.size + 1 < w1.heap.size := by omega)
  try (have z1_2 : w.heap.size + 1 + 1 < w1.heap.size := by omega)
  try (have z1_3 : w.heap.size + 1 + 1 + 1 < w1.heap.size := by omega)
  have b1 : Below w.heap.size w w1 := Below.trans (by (repeat (first | (with_reducible refine Below.drewN ?_) | (with_reducible refine Below.drew ?_) | ((with_reducible refine Below.alloc ?_ ?_ _); rotate_left; (first | omega | (simp <;> omega))) | ((with_reducible refine Below.setCell ?_ ?_ _); rotate_left; (first | omega | (simp <;> omega))) | (with_reducible exact Below.refl _ _) | (with_reducible assumption)))) (hb1.mono (by first | omega | (simp <;> omega)))
  go_wp2_with (go_at_call 39; refine (c_sameFloat _ _ _ _).mono ?_; rintro e w' ⟨rfl, n3, rfl⟩)
  go_ret
  exact ⟨rfl, by (repeat (first | (with_reducible refine Below.drewN ?_) | (with_reducible refine Below.drew ?_) | ((with_reducible refine Below.alloc ?_ ?_ _); rotate_left; (first | omega | (simp <;> omega))) | ((with_reducible refine Below.setCell ?_ ?_ _); rotate_left; (first | omega | (simp <;> omega))) | (with_reducible exact Below.refl _ _) | (with_reducible assumption)))⟩
def NewComb (n1 : Nat) (xs1 : List Nat) (i1 : Int) (x1 : Nat) (code : Int) (w : World) (e : Ending) (w' : World) : Prop :=
  ∃ (a1 : Option Addr) (c1 g1 t_x1 : Nat), e = .returned (.tuple #[.agg #[.slice a1 n1 c1, .int .i64 i1, .float .f32 (nv .f32 x1 t_x1)], .int .i64 code]) ∧ Below w.heap.size w w' ∧ (0 < n1 → w.heap.size ≤ g1 ∧ g1 < w'.heap.size) ∧ OF w' g1 a1 n1 c1 xs1



def openB (x : Nat) : Bool := FloatKind.f32.format.order x 3212836864 == some .gt && FloatKind.f32.format.order x 1065353216 == some .lt
theorem in_range {n : Nat} (h1 : 1 ≤ n) (h2 : n ≤ 1024) : inB n 1 1024 = true := by unfold inB; rw [decide_eq_true (show (1 : Int) ≤ n by omega), decide_eq_true (show (n : Int) ≤ 1024 by omega)]; rfl
theorem NewComb.zero {w w' : World} {code : Int} (hb : Below w.heap.size w w') : NewComb 0 [] 0 0 code w (.returned (.tuple #[.agg #[.slice none 0 0, .int .i64 0, .float .f32 0], .int .i64 code])) w' :=
  ⟨none, 0, 0, 0, rfl, hb, fun h => absurd h (by omega), OF.nil _ _⟩
end Go.Proofs.Ytdhiihmfgmempaa
