
/-
Contracts of combs.
-/
import Derived.Test.YtfhegjjgfaeinaaSn
namespace Go.Proofs.Ytfhegjjgfaeinaa
open Go Go.RowKit Fl

theorem wf_zero (n : Nat) : (List.replicate n 0).length = n := by simp
/-- a new ring of silence -/
def NewR (n : Nat) (w : World) (v : Value → Value) (e : Ending) (w' : World) : Prop :=
  ∃ g, e = .returned (v (.slice (some ⟨g, 0, none⟩) n n)) ∧ Below w.heap.size w w' ∧ w.heap.size ≤ g ∧ g < w'.heap.size ∧ OF w' g (some ⟨g, 0, none⟩) n n (List.replicate n 0)
theorem c_NewRing (n : Nat) (w : World) (h1 : 1 ≤ n) (h2 : n ≤ 1024) :
    Calls Try.prog 68 #[.int .i64 n] w (NewR n w fun s => .tuple #[.agg #[s, .int .i64 0], .int .i64 0]) := by
  have hin : inB n 1 1024 = true := by unfold inB; rw [decide_eq_true (show (1 : Int) ≤ n by omega), decide_eq_true (show (n : Int) ≤ 1024 by omega)]; rfl
  have hmk := mk_f32 n (by omega)
  go_enter Try.func68, Try.ntmps68
  go_wp2_with (go_at_call 49; refine (c_within _ _ _ _).mono ?_; rintro e w' ⟨rfl, n1, rfl⟩)
  clear hmk hin
  refine bodyPost_ret (v := ?v) (by simp [results, Try.results68, go_sem]; rfl) rfl ?_
  exact ⟨_, rfl, by (repeat (first | (with_reducible refine Below.drewN ?_) | (with_reducible refine Below.drew ?_) | ((with_reducible refine Below.alloc ?_ ?_ _); rotate_left; (first | omega | (simp <;> omega))) | ((with_reducible refine Below.setCell ?_ ?_ _); rotate_left; (first | omega | (simp <;> omega))) | (with_reducible exact Below.refl _ _) | (with_reducible assumption))), by simp, by simp, by (repeat (first | (with_reducible assumption) | (with_reducible refine OF.draw ?_) | (with_reducible exact OF.made' (by simp) (by simp) (by omega)) | (with_reducible refine OF.alloc ?_ _) | ((with_reducible refine OF.setCell ?_ ?_ _); rotate_left; (first | omega | (simp <;> omega)))))⟩
theorem c_l06Silence (n : Nat) (w : World) (h2 : n ≤ 1024) :
    Calls Try.prog 62 #[.int .i64 n] w (NewR n w fun s => .agg #[s, .int .i64 0]) := by
  have hmk := mk_f32 n (by omega)
  go_enter Try.func62, Try.ntmps62
  go_wp2
  clear hmk
  refine bodyPost_ret (v := ?v) (by simp [results, Try.results62, go_sem]; rfl) rfl ?_
  exact ⟨_, rfl, by (repeat (first | (with_reducible refine Below.drewN ?_) | (with_reducible refine Below.drew ?_) | ((with_reducible refine Below.alloc ?_ ?_ _); rotate_left; (first | omega | (simp <;> omega))) | ((with_reducible refine Below.setCell ?_ ?_ _); rotate_left; (first | omega | (simp <;> omega))) | (with_reducible exact Below.refl _ _) | (with_reducible assumption))), by simp, by simp, by (repeat (first | (with_reducible assumption) | (with_reducible refine OF.draw ?_) | (with_reducible exact OF.made' (by simp) (by simp) (by omega)) | (with_reducible refine OF.alloc ?_ _) | ((with_reducible refine OF.setCell ?_ ?_ _); rotate_left; (first | omega | (simp <;> omega)))))⟩

theorem c_szComb_ok (a1 : Option Addr) (n1 c1 : Nat) (i1 : Int) (x1 : Nat) (left : Int) (w : World) (h0 : 0 ≤ left) (h1 : left ≤ 1048576) (m1 : n1 ≤ 9223372036854775807) (h : (n1 : Int) ≤ left) :
    Calls Try.prog 141 #[.agg #[.slice a1 n1 c1, .int .i64 i1, .float .f32 x1], .int .i64 left] w (RetV (.int .i64 (left - n1)) w) := by
  go_enter Try.func141, Try.ntmps141
  go_wp2_with fail
  refine (c_szRing_ok a1 n1 c1 i1 (left) _ (by omega) (by omega) m1 (by omega)).mono ?_
  rintro e w1 ⟨rfl, hb1⟩
  obtain ⟨hc1, hf1, hz1⟩ := bcell hb1
  have g1 : ¬ (left - n1) < 0 := by omega
  try simp at hz1
  have zb1 : w.heap.size ≤ w1.heap.size := by omega
  try (have z1_0 : w.heap.size < w1.heap.size := by omega)
  try (have z1_1 : w.heap.size + 1 < w1.heap.size := by omega)
  try (have z1_2 : w.heap.size + 1 + 1 < w1.heap.size := by omega)
  try (have z1_3 : w.heap.size + 1 + 1 + 1 < w1.heap.size := by omega)
  go_wp2
  go_ret
  have b1 : Below w.heap.size w w1 := Below.trans (by (repeat (first | (with_reducible refine Below.drewN ?_) | (with_reducible refine Below.drew ?_) | ((with_reducible refine Below.alloc ?_ ?_ _); rotate_left; (first | omega | (simp <;> omega))) | ((with_reducible refine Below.setCell ?_ ?_ _); rotate_left; (first | omega | (simp <;> omega))) | (with_reducible exact Below.refl _ _) | (with_reducible assumption)))) (hb1.mono (by first | omega | (simp <;> omega)))
  exact ⟨rfl, b1⟩
theorem c_szComb_no (a1 : Option Addr) (n1 c1 : Nat) (i1 : Int) (x1 : Nat) (left : Int) (w : World) (h0 : 0 ≤ left) (h1 : left ≤ 1048576) (m1 : n1 ≤ 9223372036854775807) (h : left < (n1 : Int)) :
    Calls Try.prog 141 #[.agg #[.slice a1 n1 c1, .int .i64 i1, .float .f32 x1], .int .i64 left] w (RetV (.int .i64 (-1)) w) := by
  go_enter Try.func141, Try.ntmps141
  go_wp2_with fail
  refine (c_szRing_no a1 n1 c1 i1 (left) _ (by omega) (by omega) m1 (by omega)).mono ?_
  rintro e w1 ⟨rfl, hb1⟩
  obtain ⟨hc1, hf1, hz1⟩ := bcell hb1
  go_wp2
  go_ret
  have b1 : Below w.heap.size w w1 := Below.trans (by (repeat (first | (with_reducible refine Below.drewN ?_) | (with_reducible refine Below.drew ?_) | ((with_reducible refine Below.alloc ?_ ?_ _); rotate_left; (first | omega | (simp <;> omega))) | ((with_reducible refine Below.setCell ?_ ?_ _); rotate_left; (first | omega | (simp <;> omega))) | (with_reducible exact Below.refl _ _) | (with_reducible assumption)))) (hb1.mono (by first | omega | (simp <;> omega)))
  exact ⟨rfl, b1⟩
theorem c_toComb' (a1 : Option Addr) (n1 c1 : Nat) (xs1 : List Nat) (i1 : Int) (x1 : Nat) (w : World) (h1 : FS w a1 n1 c1 xs1) (m1 : n1 ≤ 1048576) :
    Calls Try.prog 148 #[.agg #[.slice a1 n1 c1, .int .i64 i1, .float .f32 x1]] w (fun e w' => ∃ g1, e = .returned (.agg #[.slice (some ⟨g1, 0, none⟩) n1 n1, .int .i64 i1, .float .f32 x1]) ∧ Below w.heap.size w w' ∧ w.heap.size ≤ g1 ∧ g1 < w'.heap.size ∧ OF w' g1 (some ⟨g1, 0, none⟩) n1 n1 xs1) := by
  have H1 := Lib.hid h1
  clear h1
  go_enter Try.func148, Try.ntmps148
  go_wp2_with fail
  refine (c_toRing' a1 n1 c1 xs1 i1 _ (FS.below (B := w.heap.size) H1.out (by (repeat (first | (with_reducible refine Below.drewN ?_) | (with_reducible refine Below.drew ?_) | ((with_reducible refine Below.alloc ?_ ?_ _); rotate_left; (first | omega | (simp <;> omega))) | ((with_reducible refine Below.setCell ?_ ?_ _); rotate_left; (first | omega | (simp <;> omega))) | (with_reducible exact Below.refl _ _) | (with_reducible assumption)))) (Nat.le_refl _)) m1).mono ?_
  rintro e w1 ⟨g1, rfl, hb1, hg1, hs1, of1_1⟩
  obtain ⟨hc1, hf1, hz1⟩ := bcell hb1
  try simp at hz1
  have zb1 : w.heap.size ≤ w1.heap.size := by omega
  try (have z1_0 : w.heap.size < w1.heap.size := by omega)
  try (have z1_1 : w.heap.size + 1 < w1.heap.size := by omega)
  try (have z1_2 : w.heap.size + 1 + 1 < w1.heap.size := by omega)
  try (have z1_3 : w.heap.size + 1 + 1 + 1 < w1.heap.size := by omega)
  have b1 : Below w.heap.size w w1 := Below.trans (by (repeat (first | (with_reducible refine Below.drewN ?_) | (with_reducible refine Below.drew ?_) | ((with_reducible refine Below.alloc ?_ ?_ _); rotate_left; (first | omega | (simp <;> omega))) | ((with_reducible refine Below.setCell ?_ ?_ _); rotate_left; (first | omega | (simp <;> omega))) | (with_reducible exact Below.refl _ _) | (with_reducible assumption)))) (hb1.mono (by first | omega | (simp <;> omega)))
  try simp at hg1
  have L1_1 : g1 < w1.heap.size := by first | assumption | omega
  go_wp2
  refine bodyPost_ret (v := ?v) (by simp [results, Try.results148, go_sem, *] <;> rfl) rfl ?_
  refine ⟨g1, rfl, by (repeat (first | (with_reducible refine Below.drewN ?_) | (with_reducible refine Below.drew ?_) | ((with_reducible refine Below.alloc ?_ ?_ _); rotate_left; (first | omega | (simp <;> omega))) | ((with_reducible refine Below.setCell ?_ ?_ _); rotate_left; (first | omega | (simp <;> omega))) | (with_reducible exact Below.refl _ _) | (with_reducible assumption))), by omega, by (simp <;> omega), by (repeat (first | (with_reducible assumption) | (with_reducible refine OF.draw ?_) | (with_reducible exact OF.made' (by simp) (by simp) (by omega)) | (with_reducible refine OF.alloc ?_ _) | ((with_reducible refine OF.setCell ?_ ?_ _); rotate_left; (first | omega | (simp <;> omega)))))⟩
theorem c_eqComb' (a1 d1 : Option Addr) (n1 c1 e1 : Nat) (xs1 ys1 : List Nat) (i1 : Int) (x1 y1 : Nat) (w : World) (h1 : FS w a1 n1 c1 xs1) (j1 : FS w d1 n1 e1 ys1) (l1 : Alk xs1 ys1) (v1 : up y1 = up x1) :
    Calls Try.prog 130 #[.agg #[.slice a1 n1 c1, .int .i64 i1, .float .f32 x1], .agg #[.slice d1 n1 e1, .int .i64 i1, .float .f32 y1]] w (RetV (.bool true) w) := by
  have H1 := Lib.hid h1
  have J1 := Lib.hid j1
  have L1 := Lib.hid l1
  clear h1 j1 l1
  go_enter Try.func130, Try.ntmps130
  go_wp2_with (go_at_call 28; refine (c_sameFloat _ _ _ _).mono ?_; rintro e w' ⟨rfl, n3, rfl⟩)
  refine (c_eqRing' _ _ _ _ _ _ _ _ _ (FS.below (B := w.heap.size) H1.out (by (repeat (first | (with_reducible refine Below.drewN ?_) | (with_reducible refine Below.drew ?_) | ((with_reducible refine Below.alloc ?_ ?_ _); rotate_left; (first | omega | (simp <;> omega))) | ((with_reducible refine Below.setCell ?_ ?_ _); rotate_left; (first | omega | (simp <;> omega))) | (with_reducible exact Below.refl _ _) | (with_reducible assumption)))) (Nat.le_refl _)) (FS.below (B := w.heap.size) J1.out (by (repeat (first | (with_reducible refine Below.drewN ?_) | (with_reducible refine Below.drew ?_) | ((with_reducible refine Below.alloc ?_ ?_ _); rotate_left; (first | omega | (simp <;> omega))) | ((with_reducible refine Below.setCell ?_ ?_ _); rotate_left; (first | omega | (simp <;> omega))) | (with_reducible exact Below.refl _ _) | (with_reducible assumption)))) (Nat.le_refl _)) L1.out).mono ?_
  rintro e w1 ⟨rfl, hb1⟩
  obtain ⟨hc1, hf1, hz1⟩ := bcell hb1
  try simp at hz1
  have zb1 : w.heap.size ≤ w1.heap.size := by omega
  try (have z1_0 : w.heap.size < w1.heap.size := by omega)
  try (have z1_1 : w.heap.size + 1 < w1.heap.size := by omega)
  try (have z1_2 : w.heap.size + 1 + 1 < w1.heap.size := by omega)
  try (have z1_3 : w.heap.size + 1 + 1 + 1 < w1.heap.size := by omega)
  have b1 : Below w.heap.size w w1 := Below.trans (by (repeat (first | (with_reducible refine Below.drewN ?_) | (with_reducible refine Below.drew ?_) | ((with_reducible refine Below.alloc ?_ ?_ _); rotate_left; (first | omega | (simp <;> omega))) | ((with_reducible refine Below.setCell ?_ ?_ _); rotate_left; (first | omega | (simp <;> omega))) | (with_reducible exact Below.refl _ _) | (with_reducible assumption)))) (hb1.mono (by first | omega | (simp <;> omega)))
  go_wp2_with (go_at_call 28; refine (c_sameFloat _ _ _ _).mono ?_; rintro e w' ⟨rfl, n3, rfl⟩)
  go_ret
  exact ⟨rfl, by (repeat (first | (with_reducible refine Below.drewN ?_) | (with_reducible refine Below.drew ?_) | ((with_reducible refine Below.alloc ?_ ?_ _); rotate_left; (first | omega | (simp <;> omega))) | ((with_reducible refine Below.setCell ?_ ?_ _); rotate_left; (first | omega | (simp <;> omega))) | (with_reducible exact Below.refl _ _) | (with_reducible assumption)))⟩
theorem c_markComb' (g1 : Nat) (a1 : Option Addr) (n1 c1 : Nat) (xs1 : List Nat) (i1 : Int) (x1 : Nat) (k : Int) (w : World) (h1 : OF w g1 a1 n1 c1 xs1) (B1 : 0 < n1 → g1 < w.heap.size) (hk0 : 0 ≤ k) (hk : k + (n1 : Int) ≤ 1099511627776) :
    Calls Try.prog 132 #[.agg #[.slice a1 n1 c1, .int .i64 i1, .float .f32 x1], .int .i64 k] w (fun e w' => e = .returned (.int .i64 (k + (n1 : Int))) ∧ Wr (gl n1 g1) w w' ∧ OF w' g1 a1 n1 c1 (marks (k) n1)) := by
  have H1 := Lib.hid h1
  clear h1
  go_enter Try.func132, Try.ntmps132
  go_wp2_with fail
  have A1 := OF.alloc H1.out (.cells #[.slice a1 n1 c1, .int .i64 i1, .float .f32 x1] 45)
  refine (c_markRing' g1 a1 n1 c1 xs1 i1 (k) _ (by (repeat (first | (with_reducible assumption) | (with_reducible refine OF.draw ?_) | (with_reducible exact OF.made' (by simp) (by simp) (by omega)) | (with_reducible refine OF.alloc ?_ _) | ((with_reducible refine OF.setCell ?_ ?_ _); rotate_left; (first | omega | (simp <;> omega)))))) (by simp at *; omega) (by omega) (by omega)).mono ?_
  rintro e w1 ⟨rfl, wr1, of1_1⟩
  obtain ⟨hc1, hf1, hz1⟩ := wr1.cell w.heap.size (by first | (simp; done) | omega) (by simp only [mem_gl]; omega)
  try simp at hz1
  have zb1 : w.heap.size ≤ w1.heap.size := by omega
  try (have z1_0 : w.heap.size < w1.heap.size := by omega)
  try (have z1_1 : w.heap.size + 1 < w1.heap.size := by omega)
  try (have z1_2 : w.heap.size + 1 + 1 < w1.heap.size := by omega)
  try (have z1_3 : w.heap.size + 1 + 1 + 1 < w1.heap.size := by omega)
  go_wp2
  go_ret
  have r0 : Wr [] w (w.alloc (.cells #[.slice a1 n1 c1, .int .i64 i1, .float .f32 x1] 45)) := Wr.of_below ((Below.refl _ _).alloc (Nat.le_refl _) _)
  exact ⟨rfl, (r0.trans wr1).mono (by simp), of1_1⟩
theorem c_heldComb' (a1 : Option Addr) (n1 c1 : Nat) (i1 : Int) (x1 : Nat) (k : Int) (w : World) (h1 : FS w a1 n1 c1 (marks (k) n1)) (hk0 : 0 ≤ k) (hk : k + (n1 : Int) ≤ 1099511627776) :
    Calls Try.prog 134 #[.agg #[.slice a1 n1 c1, .int .i64 i1, .float .f32 x1], .int .i64 k] w (RetV (.int .i64 (k + (n1 : Int))) w) := by
  have H1 := Lib.hid h1
  clear h1
  go_enter Try.func134, Try.ntmps134
  go_wp2_with fail
  refine (c_heldRing' a1 n1 c1 i1 (k) _ (FS.below (B := w.heap.size) H1.out (by (repeat (first | (with_reducible refine Below.drewN ?_) | (with_reducible refine Below.drew ?_) | ((with_reducible refine Below.alloc ?_ ?_ _); rotate_left; (first | omega | (simp <;> omega))) | ((with_reducible refine Below.setCell ?_ ?_ _); rotate_left; (first | omega | (simp <;> omega))) | (with_reducible exact Below.refl _ _) | (with_reducible assumption)))) (Nat.le_refl _)) (by omega) (by omega)).mono ?_
  rintro e w1 ⟨rfl, hb1⟩
  obtain ⟨hc1, hf1, hz1⟩ := bcell hb1
  try simp at hz1
  have zb1 : w.heap.size ≤ w1.heap.size := by omega
  try (have z1_0 : w.heap.size < w1.heap.size := by omega)
  try (have z1_1 : w.heap.size + 1 < w1.heap.size := by omega)
  try (have z1_2 : w.heap.size + 1 + 1 < w1.heap.size := by omega)
  try (have z1_3 : w.heap.size + 1 + 1 + 1 < w1.heap.size := by omega)
  have b1 : Below w.heap.size w w1 := Below.trans (by (repeat (first | (with_reducible refine Below.drewN ?_) | (with_reducible refine Below.drew ?_) | ((with_reducible refine Below.alloc ?_ ?_ _); rotate_left; (first | omega | (simp <;> omega))) | ((with_reducible refine Below.setCell ?_ ?_ _); rotate_left; (first | omega | (simp <;> omega))) | (with_reducible exact Below.refl _ _) | (with_reducible assumption)))) (hb1.mono (by first | omega | (simp <;> omega)))
  go_wp2
  go_ret
  exact ⟨rfl, by (repeat (first | (with_reducible refine Below.drewN ?_) | (with_reducible refine Below.drew ?_) | ((with_reducible refine Below.alloc ?_ ?_ _); rotate_left; (first | omega | (simp <;> omega))) | ((with_reducible refine Below.setCell ?_ ?_ _); rotate_left; (first | omega | (simp <;> omega))) | (with_reducible exact Below.refl _ _) | (with_reducible assumption)))⟩
def NewComb (n1 : Nat) (xs1 : List Nat) (i1 : Int) (x1 : Nat) (code : Int) (w : World) (e : Ending) (w' : World) : Prop :=
  ∃ (a1 : Option Addr) (c1 g1 t_x1 : Nat), e = .returned (.tuple #[.agg #[.slice a1 n1 c1, .int .i64 i1, .float .f32 (nv .f32 x1 t_x1)], .int .i64 code]) ∧ Below w.heap.size w w' ∧ (0 < n1 → w.heap.size ≤ g1 ∧ g1 < w'.heap.size) ∧ OF w' g1 a1 n1 c1 xs1



def openB (x : Nat) : Bool := FloatKind.f32.format.order x 3212836864 == some .gt && FloatKind.f32.format.order x 1065353216 == some .lt
theorem in_range {n : Nat} (h1 : 1 ≤ n) (h2 : n ≤ 1024) : inB n 1 1024 = true := by unfold inB; rw [decide_eq_true (show (1 : Int) ≤ n by omega), decide_eq_true (show (n : Int) ≤ 1024 by omega)]; rfl
theorem c_NewComb_ok (n x : Nat) (w : World) (h1 : 1 ≤ n) (h2 : n ≤ 1024) (h3 : openB x = true) :
    Calls Try.prog 69 #[.int .i64 n, .float .f32 x] w (NewComb n (List.replicate n 0) 0 x 0 w) := by
  have hin := in_range h1 h2
  unfold openB at h3
  rw [Bool.and_eq_true] at h3
  obtain ⟨g1, g2⟩ := h3
  go_enter Try.func69, Try.ntmps69
  go_wp2_with (go_at_call 49; refine (c_within _ _ _ _).mono ?_; rintro e w' ⟨rfl, n1, rfl⟩)
  refine (c_NewRing n _ h1 h2).mono ?_
  rintro e w1 ⟨g, rfl, hb1, hg, hgs, ho⟩
  obtain ⟨hc1, hf1, hz1⟩ := bcell hb1
  try simp at hz1
  have zb1 : w.heap.size ≤ w1.heap.size := by omega
  try (have z1_0 : w.heap.size < w1.heap.size := by omega)
  try (have z1_1 : w.heap.size + 1 < w1.heap.size := by omega)
  try (have z1_2 : w.heap.size + 1 + 1 < w1.heap.size := by omega)
  try (have z1_3 : w.heap.size + 1 + 1 + 1 < w1.heap.size := by omega)
  have b1 : Below w.heap.size w w1 := Below.trans (by (repeat (first | (with_reducible refine Below.drewN ?_) | (with_reducible refine Below.drew ?_) | ((with_reducible refine Below.alloc ?_ ?_ _); rotate_left; (first | omega | (simp <;> omega))) | ((with_reducible refine Below.setCell ?_ ?_ _); rotate_left; (first | omega | (simp <;> omega))) | (with_reducible exact Below.refl _ _) | (with_reducible assumption)))) (hb1.mono (by first | omega | (simp <;> omega)))
  have G : w.heap.size < g := by simp at hg; omega
  go_wp2
  refine bodyPost_ret (v := ?v) (by simp [results, Try.results69, go_sem, *] <;> rfl) rfl ?_
  exact ⟨some ⟨g, 0, none⟩, n, g, 0, rfl, by (repeat (first | (with_reducible refine Below.drewN ?_) | (with_reducible refine Below.drew ?_) | ((with_reducible refine Below.alloc ?_ ?_ _); rotate_left; (first | omega | (simp <;> omega))) | ((with_reducible refine Below.setCell ?_ ?_ _); rotate_left; (first | omega | (simp <;> omega))) | (with_reducible exact Below.refl _ _) | (with_reducible assumption))), fun _ => ⟨by omega, by (simp <;> omega)⟩, by (repeat (first | (with_reducible assumption) | (with_reducible refine OF.draw ?_) | (with_reducible exact OF.made' (by simp) (by simp) (by omega)) | (with_reducible refine OF.alloc ?_ _) | ((with_reducible refine OF.setCell ?_ ?_ _); rotate_left; (first | omega | (simp <;> omega)))))⟩
theorem NewComb.zero {w w' : World} {code : Int} (hb : Below w.heap.size w w') : NewComb 0 [] 0 0 code w (.returned (.tuple #[.agg #[.slice none 0 0, .int .i64 0, .float .f32 0], .int .i64 code])) w' :=
  ⟨none, 0, 0, 0, rfl, hb, fun h => absurd h (by omega), OF.nil _ _⟩
theorem c_NewComb_no (n : Int) (x : Nat) (w : World) (h : (inB n 1 1024 && openB x) = false) :
    Calls Try.prog 69 #[.int .i64 n, .float .f32 x] w (NewComb 0 [] 0 0 2 w) := by
  cases h1 : inB n 1 1024
  · go_enter Try.func69, Try.ntmps69
    go_wp2_with (go_at_call 49; refine (c_within _ _ _ _).mono ?_; rintro e w' ⟨rfl, n1, rfl⟩)
    refine bodyPost_ret (v := ?v) (by simp [results, Try.results69, go_sem, *] <;> rfl) rfl ?_
    exact NewComb.zero (by (repeat (first | (with_reducible refine Below.drewN ?_) | (with_reducible refine Below.drew ?_) | ((with_reducible refine Below.alloc ?_ ?_ _); rotate_left; (first | omega | (simp <;> omega))) | ((with_reducible refine Below.setCell ?_ ?_ _); rotate_left; (first | omega | (simp <;> omega))) | (with_reducible exact Below.refl _ _) | (with_reducible assumption))))
  · rw [h1, Bool.true_and] at h
    unfold openB at h
    cases h2 : (FloatKind.f32.format.order x 3212836864 == some .gt)
    all_goals
      simp only [h2, Bool.true_and] at h
      go_enter Try.func69, Try.ntmps69
      go_wp2_with (go_at_call 49; refine (c_within _ _ _ _).mono ?_; rintro e w' ⟨rfl, n1, rfl⟩)
      refine bodyPost_ret (v := ?v) (by simp [results, Try.results69, go_sem, *] <;> rfl) rfl ?_
      exact NewComb.zero (by (repeat (first | (with_reducible refine Below.drewN ?_) | (with_reducible refine Below.drew ?_) | ((with_reducible refine Below.alloc ?_ ?_ _); rotate_left; (first | omega | (simp <;> omega))) | ((with_reducible refine Below.setCell ?_ ?_ _); rotate_left; (first | omega | (simp <;> omega))) | (with_reducible exact Below.refl _ _) | (with_reducible assumption))))
end Go.Proofs.Ytfhegjjgfaeinaa
