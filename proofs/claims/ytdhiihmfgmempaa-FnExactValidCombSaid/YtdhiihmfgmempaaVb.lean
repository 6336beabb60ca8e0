
/-
The test of combs; the law.
-/
import Derived.Test.YtdhiihmfgmempaaRh
import Derived.Test.YtdhiihmfgmempaaRi
import Derived.Test.YtdhiihmfgmempaaLi
import Derived.Test.YtdhiihmfgmempaaLw
import Derived.Test.YtdhiihmfgmempaaLd
import Derived.Test.YtdhiihmfgmempaaCm
namespace Go.Proofs.Ytdhiihmfgmempaa
open Go Go.RowKit Fl
theorem c_rings1 (W : World) (g : Nat) (a1 : Option Addr) (n1 c1 : Nat) (xs1 : List Nat) (i1 : Int) (h_1 : FS W a1 n1 c1 xs1) {T : TypeId}
    (hg : W.heap[g]? = some (.cells #[.slice a1 n1 c1, .int .i64 i1] T)) :
    Calls Try.prog 113 #[.slice (some ⟨g, 0, none⟩) 1 1] W (RetB (ringB n1 i1 && finTo xs1 n1) W) :=
  c_l04Rings g 0 [⟨a1, n1, c1, xs1, i1⟩] 1 W (by simp) (fun j hj => by
    obtain rfl : j = 0 := Nat.lt_one_iff.1 hj
    exact ⟨cell_block hg _, cell_block hg _, h_1⟩)
def valComb (n1 : Nat) (xs1 : List Nat) (i1 : Int) (x1 : Nat) : Bool := (ringB n1 i1 && finTo xs1 n1) && (finB x1)
theorem c_ValidComb_ (a1 : Option Addr) (n1 c1 : Nat) (xs1 : List Nat) (i1 : Int) (x1 : Nat) (w : World) (h_1 : FS w a1 n1 c1 xs1) :
    Calls Try.prog 35 #[.agg #[.slice a1 n1 c1, .int .i64 i1, .float .f32 x1]] w (RetV (.bool ((ringB n1 i1 && finTo xs1 n1) && (finB x1))) w) := by
  have K1 : Hid (∀ W, Below w.heap.size w W → Calls Try.prog 87 #[.agg #[.slice a1 n1 c1, .int .i64 i1]] W (RetV (.bool (ringB n1 i1 && finTo xs1 n1)) W)) := fun W hb => c_isRing _ _ _ _ _ W (h_1.below hb (Nat.le_refl _))
  have K2 : Hid (∀ W, Calls Try.prog 69 #[.float .f32 x1] W (RetB (finB x1) W)) := fun W => c_isFinite _ W
  clear h_1
  rcases (Bool.eq_false_or_eq_true (ringB n1 i1 && finTo xs1 n1)).symm with h1 | h1
  · have e : ((ringB n1 i1 && finTo xs1 n1) && (finB x1)) = false := by rw [h1, Bool.false_and]
    rw [h1] at K1
    rw [e]
    clear e h1
    go_enter Try.func35, Try.ntmps35
    go_wp2_with fail
    refine (K1.out _ (by (repeat (first | (with_reducible refine Below.drewN ?_) | (with_reducible refine Below.drew ?_) | ((with_reducible refine Below.alloc ?_ ?_ _); rotate_left; (first | omega | (simp <;> omega))) | ((with_reducible refine Below.setCell ?_ ?_ _); rotate_left; (first | omega | (simp <;> omega))) | (with_reducible exact Below.refl _ _) | (with_reducible assumption))))).mono ?_
    rintro e w1 ⟨rfl, hb1⟩
    obtain ⟨hc1, hf1, hz1⟩ := bcell hb1
    try simp at hz1
    have zb1 : w.heap.size ≤ w1.heap.size := by omega
    try (have z1_0 : w.heap.size < w1.heap.size := by omega)
    try (have z1_1 : w.heap.size + 1 < w1.heap.size := by omega)
    try (have z1_2 : w.heap.size + 1 + 1 < w1.heap.size := by omega)
    try (have z1_3 : w.heap.size + 1 + 1 + 1 < w1.heap.size := by omega)
    have b1 : Below w.heap.size w w1 := Below.trans (by (repeat (first | (with_reducible refine Below.drewN ?_) | (with_reducible refine Below.drew ?_) | ((with_reducible refine Below.alloc ?_ ?_ _); rotate_left; (first | omega | (simp <;> omega))) | ((with_reducible refine Below.setCell ?_ ?_ _); rotate_left; (first | omega | (simp <;> omega))) | (with_reducible exact Below.refl _ _) | (with_reducible assumption)))) (hb1.mono (by first | omega | (simp <;> omega)))
    go_wp2
    go_ret
    exact ⟨rfl, by (repeat (first | (with_reducible refine Below.drewN ?_) | (with_reducible refine Below.drew ?_) | ((with_reducible refine Below.alloc ?_ ?_ _); rotate_left; (first | omega | (simp <;> omega))) | ((with_reducible refine Below.setCell ?_ ?_ _); rotate_left; (first | omega | (simp <;> omega))) | (with_reducible exact Below.refl _ _) | (with_reducible assumption)))⟩

  rw [h1] at K1
  have e : ((ringB n1 i1 && finTo xs1 n1) && (finB x1)) = (finB x1) := by rw [h1, Bool.true_and]
  rw [e]
  clear e h1
  go_enter Try.func35, Try.ntmps35
  go_wp2_with fail
  refine (K1.out _ (by (repeat (first | (with_reducible refine Below.drewN ?_) | (with_reducible refine Below.drew ?_) | ((with_reducible refine Below.alloc ?_ ?_ _); rotate_left; (first | omega | (simp <;> omega))) | ((with_reducible refine Below.setCell ?_ ?_ _); rotate_left; (first | omega | (simp <;> omega))) | (with_reducible exact Below.refl _ _) | (with_reducible assumption))))).mono ?_
  rintro e w1 ⟨rfl, hb1⟩
  obtain ⟨hc1, hf1, hz1⟩ := bcell hb1
  try simp at hz1
  have zb1 : w.heap.size ≤ w1.heap.size := by omega
  try (have z1_0 : w.heap.size < w1.heap.size := by omega)
  try (have z1_1 : w.heap.size + 1 < w1.heap.size := by omega)
  try (have z1_2 : w.heap.size + 1 + 1 < w1.heap.size := by omega)
  try (have z1_3 : w.heap.size + 1 + 1 + 1 < w1.heap.size := by omega)
  have b1 : Below w.heap.size w w1 := Below.trans (by (repeat (first | (with_reducible refine Below.drewN ?_) | (with_reducible refine Below.drew ?_) | ((with_reducible refine Below.alloc ?_ ?_ _); rotate_left; (first | omega | (simp <;> omega))) | ((with_reducible refine Below.setCell ?_ ?_ _); rotate_left; (first | omega | (simp <;> omega))) | (with_reducible exact Below.refl _ _) | (with_reducible assumption)))) (hb1.mono (by first | omega | (simp <;> omega)))
  go_wp2_with fail
  refine (K2.out _).mono ?_
  rintro e w' ⟨rfl, dq2, rfl⟩
  go_wp2
  go_ret
  exact ⟨rfl, by (repeat (first | (with_reducible refine Below.drewN ?_) | (with_reducible refine Below.drew ?_) | ((with_reducible refine Below.alloc ?_ ?_ _); rotate_left; (first | omega | (simp <;> omega))) | ((with_reducible refine Below.setCell ?_ ?_ _); rotate_left; (first | omega | (simp <;> omega))) | (with_reducible exact Below.refl _ _) | (with_reducible assumption)))⟩

theorem c_ValidComb (a1 : Option Addr) (n1 c1 : Nat) (xs1 : List Nat) (i1 : Int) (x1 : Nat) (w : World) (h_1 : FS w a1 n1 c1 xs1) :
    Calls Try.prog 35 #[.agg #[.slice a1 n1 c1, .int .i64 i1, .float .f32 x1]] w (RetV (.bool (valComb n1 xs1 i1 x1)) w) := c_ValidComb_ a1 n1 c1 xs1 i1 x1 w h_1

set_option maxRecDepth 100000 in
theorem c_l06Comb (b o : Nat) (a1 : Option Addr) (n1 c1 : Nat) (xs1 : List Nat) (i1 : Int) (x1 : Nat) (w : World) (h_1 : FS w a1 n1 c1 xs1)
    (hb : b < w.heap.size)
    (e0 : w.cell? ⟨b, o, none⟩ = some (.slice a1 n1 c1))
    (e1 : w.cell? ⟨b, o + 1, none⟩ = some (.int .i64 i1))
    (e2 : w.cell? ⟨b, o + 2, none⟩ = some (.float .f32 x1)) :
    Calls Try.prog 85 #[.pointer (some ⟨b, o, none⟩)] w (RetV (.bool ((ringB n1 i1 && finTo xs1 n1) && (finB x1))) w) := by
  have K1 : Hid (∀ W g, Grow w W → W.heap[g]? = some (.cells #[.slice a1 n1 c1, .int .i64 i1] 49) → Calls Try.prog 113 #[.slice (some ⟨g, 0, none⟩) 1 1] W (RetB (ringB n1 i1 && finTo xs1 n1) W)) := fun W g hW hg => c_rings1 W g _ _ _ _ _ (h_1.below hW (Nat.le_refl _)) hg
  have K2 : Hid (∀ W, Calls Try.prog 67 #[.float .f32 x1] W (RetB (finB x1) W)) := fun W => c_l01Finite _ W
  clear h_1
  rcases (Bool.eq_false_or_eq_true (ringB n1 i1 && finTo xs1 n1)).symm with h1 | h1
  · have e : ((ringB n1 i1 && finTo xs1 n1) && (finB x1)) = false := by rw [h1]; simp
    rw [e]
    rw [h1] at K1
    clear e h1
    go_enter Try.func85, Try.ntmps85
    go_wp2_with fail
    refine (K1.out _ w.heap.size ?_ ?_).mono ?_
    · show Below _ _ _
      (repeat (first | (with_reducible refine Below.drewN ?_) | (with_reducible refine Below.drew ?_) | ((with_reducible refine Below.alloc ?_ ?_ _); rotate_left; (first | omega | (simp <;> omega))) | ((with_reducible refine Below.setCell ?_ ?_ _); rotate_left; (first | omega | (simp <;> omega))) | (with_reducible exact Below.refl _ _) | (with_reducible assumption)))
    · exact (MapKept.heap_alloc w _).1
    rintro e w' ⟨rfl, n1, rfl⟩
    go_wp2
    go_ret
    exact ⟨rfl, by (repeat (first | (with_reducible refine Below.drewN ?_) | (with_reducible refine Below.drew ?_) | ((with_reducible refine Below.alloc ?_ ?_ _); rotate_left; (first | omega | (simp <;> omega))) | ((with_reducible refine Below.setCell ?_ ?_ _); rotate_left; (first | omega | (simp <;> omega))) | (with_reducible exact Below.refl _ _) | (with_reducible assumption)))⟩

  have e : ((ringB n1 i1 && finTo xs1 n1) && (finB x1)) = (finB x1) := by rw [h1]; simp
  rw [e]
  rw [h1] at K1
  clear e h1
  go_enter Try.func85, Try.ntmps85
  go_wp2_with fail
  refine (K1.out _ w.heap.size ?_ ?_).mono ?_
  · show Below _ _ _
    (repeat (first | (with_reducible refine Below.drewN ?_) | (with_reducible refine Below.drew ?_) | ((with_reducible refine Below.alloc ?_ ?_ _); rotate_left; (first | omega | (simp <;> omega))) | ((with_reducible refine Below.setCell ?_ ?_ _); rotate_left; (first | omega | (simp <;> omega))) | (with_reducible exact Below.refl _ _) | (with_reducible assumption)))
  · exact (MapKept.heap_alloc w _).1
  rintro e w' ⟨rfl, n1, rfl⟩
  go_wp2_with fail
  refine (K2.out _).mono ?_
  rintro e w' ⟨rfl, n2, rfl⟩
  go_wp2
  go_ret
  exact ⟨rfl, by (repeat (first | (with_reducible refine Below.drewN ?_) | (with_reducible refine Below.drew ?_) | ((with_reducible refine Below.alloc ?_ ?_ _); rotate_left; (first | omega | (simp <;> omega))) | ((with_reducible refine Below.setCell ?_ ?_ _); rotate_left; (first | omega | (simp <;> omega))) | (with_reducible exact Below.refl _ _) | (with_reducible assumption)))⟩

theorem c_sValidComb (a1 : Option Addr) (n1 c1 : Nat) (xs1 : List Nat) (i1 : Int) (x1 : Nat) (w : World) (h_1 : FS w a1 n1 c1 xs1) :
    Calls Try.prog 33 #[.agg #[.slice a1 n1 c1, .int .i64 i1, .float .f32 x1]] w (RetV (.bool (valComb n1 xs1 i1 x1)) w) := by
  have H1 := Lib.hid h_1
  clear h_1
  go_enter Try.func33, Try.ntmps33
  go_wp2_with fail
  refine (c_l06Comb _ 0 a1 n1 c1 xs1 i1 x1 _ (FS.below (B := w.heap.size) H1.out (by (repeat (first | (with_reducible refine Below.drewN ?_) | (with_reducible refine Below.drew ?_) | ((with_reducible refine Below.alloc ?_ ?_ _); rotate_left; (first | omega | (simp <;> omega))) | ((with_reducible refine Below.setCell ?_ ?_ _); rotate_left; (first | omega | (simp <;> omega))) | (with_reducible exact Below.refl _ _) | (with_reducible assumption)))) (Nat.le_refl _)) (by simp) (by simp) (by simp) (by simp)).mono ?_
  rintro e w1 ⟨rfl, hb1⟩
  obtain ⟨hc1, hf1, hz1⟩ := bcell hb1
  try simp at hz1
  have zb1 : w.heap.size ≤ w1.heap.size := by omega
  try (have z1_0 : w.heap.size < w1.heap.size := by omega)
  try (have z1_1 : w.heap.size + 1 < w1.heap.size := by omega)
  try (have z1_2 : w.heap.size + 1 + 1 < w1.heap.size := by omega)
  try (have z1_3 : w.heap.size + 1 + 1 + 1 < w1.heap.size := by omega)
  have b1 : Below w.heap.size w w1 := Below.trans (by (repeat (first | (with_reducible refine Below.drewN ?_) | (with_reducible refine Below.drew ?_) | ((with_reducible refine Below.alloc ?_ ?_ _); rotate_left; (first | omega | (simp <;> omega))) | ((with_reducible refine Below.setCell ?_ ?_ _); rotate_left; (first | omega | (simp <;> omega))) | (with_reducible exact Below.refl _ _) | (with_reducible assumption)))) (hb1.mono (by first | omega | (simp <;> omega)))
  go_wp2
  go_ret
  exact ⟨rfl, by (repeat (first | (with_reducible refine Below.drewN ?_) | (with_reducible refine Below.drew ?_) | ((with_reducible refine Below.alloc ?_ ?_ _); rotate_left; (first | omega | (simp <;> omega))) | ((with_reducible refine Below.setCell ?_ ?_ _); rotate_left; (first | omega | (simp <;> omega))) | (with_reducible exact Below.refl _ _) | (with_reducible assumption)))⟩


set_option maxRecDepth 100000 in
set_option maxHeartbeats 1000000 in
theorem l_ValidComb (a1 : Option Addr) (n1 c1 : Nat) (xs1 : List Nat) (i1 : Int) (x1 : Nat) (v : Bool) (w : World) (h_1 : FS w a1 n1 c1 xs1)
    (HS : ∀ W (d1 : Option Addr) (e1 : Nat), FS W d1 n1 e1 xs1 → Calls Try.prog 33 #[.agg #[.slice d1 n1 e1, .int .i64 i1, .float .f32 x1]] W (RetV (.bool v) W))
    (HI : ∀ W (d1 : Option Addr) (e1 : Nat), FS W d1 n1 e1 xs1 → Calls Try.prog 35 #[.agg #[.slice d1 n1 e1, .int .i64 i1, .float .f32 x1]] W (RetV (.bool v) W)) :
    Calls Try.prog 7 #[.agg #[.slice a1 n1 c1, .int .i64 i1, .float .f32 x1]] w (RetV (.bool true) w) := by
  have HS := Lib.hid HS
  have HI := Lib.hid HI
  have M1 : n1 ≤ 9223372036854775807 := Nat.le_trans h_1.cap h_1.big
  have H1 := Lib.hid h_1
  clear h_1
  by_cases ht : (n1 : Int) ≤ 1048576
  · have hl : ¬ (1048576 - n1 : Int) < 0 := by omega
    go_enter Try.func7, Try.ntmps7
    go_wp2_with fail
    refine (c_szComb_ok _ _ _ _ _ (1048576) _ (by omega) (by omega) M1 (by omega)).mono ?_
    rintro e w1 ⟨rfl, hb1⟩
    obtain ⟨hc1, hf1, hz1⟩ := bcell hb1
    have hk1 := bblk hb1
    have Z1 : w.heap.size ≤ w1.heap.size := by first | exact hz1 | (simp at hz1; omega) | omega
    try (have ZS1 : w.heap.size < w1.heap.size := by first | omega | (simp at hz1; omega))
    try (have Xw_1 : w.heap.size < w1.heap.size := by first | omega | (simp at hz1; omega))
    try (have XXw_1 : w.heap.size < w1.heap.size + 1 := by omega)
    have b1 : Below w.heap.size w w1 := Below.trans (by (repeat (first | (with_reducible refine Below.drewN ?_) | (with_reducible refine Below.drew ?_) | ((with_reducible refine Below.alloc ?_ ?_ _); rotate_left; (first | omega | (simp <;> omega))) | ((with_reducible refine Below.setCell ?_ ?_ _); rotate_left; (first | omega | (simp <;> omega))) | (with_reducible exact Below.refl _ _) | (with_reducible assumption)))) (hb1.mono (by first | omega | (simp <;> omega)))
    go_wp2_with fail
    refine (c_toComb' a1 n1 c1 xs1 i1 x1 _ (FS.below (B := w.heap.size) H1.out (by (repeat (first | (with_reducible refine Below.drewN ?_) | (with_reducible refine Below.drew ?_) | ((with_reducible refine Below.alloc ?_ ?_ _); rotate_left; (first | omega | (simp <;> omega))) | ((with_reducible refine Below.setCell ?_ ?_ _); rotate_left; (first | omega | (simp <;> omega))) | (with_reducible exact Below.refl _ _) | (with_reducible assumption)))) (Nat.le_refl _)) (by omega)).mono ?_
    rintro e w2 ⟨g1s, rfl, hb2, l0s, l1s, o1s_2⟩
    obtain ⟨hc2, hf2, hz2⟩ := bcell hb2
    have hk2 := bblk hb2
    have Z2 : w1.heap.size ≤ w2.heap.size := by first | exact hz2 | (simp at hz2; omega) | omega
    try (have ZS2 : w1.heap.size < w2.heap.size := by first | omega | (simp at hz2; omega))
    try (have Xw_2 : w.heap.size < w2.heap.size := by first | omega | (simp at hz2; omega))
    try (have XXw_2 : w.heap.size < w2.heap.size + 1 := by omega)
    have b2 : Below w.heap.size w w2 := Below.trans (by (repeat (first | (with_reducible refine Below.drewN ?_) | (with_reducible refine Below.drew ?_) | ((with_reducible refine Below.alloc ?_ ?_ _); rotate_left; (first | omega | (simp <;> omega))) | ((with_reducible refine Below.setCell ?_ ?_ _); rotate_left; (first | omega | (simp <;> omega))) | (with_reducible exact Below.refl _ _) | (with_reducible assumption)))) (hb2.mono (by first | omega | (simp <;> omega)))
    try simp at l0s
    have q1s : w1.heap.size ≤ g1s ∧ g1s < w2.heap.size := by omega
    go_wp2_with fail
    refine (HS.out _ _ _ (FS.below (B := w2.heap.size) o1s_2.fs (by (repeat (first | (with_reducible refine Below.drewN ?_) | (with_reducible refine Below.drew ?_) | ((with_reducible refine Below.alloc ?_ ?_ _); rotate_left; (first | omega | (simp <;> omega))) | ((with_reducible refine Below.setCell ?_ ?_ _); rotate_left; (first | omega | (simp <;> omega))) | (with_reducible exact Below.refl _ _) | (with_reducible assumption)))) (Nat.le_refl _))).mono ?_
    rintro e w3 ⟨rfl, hb3⟩
    obtain ⟨hc3, hf3, hz3⟩ := bcell hb3
    have hk3 := bblk hb3
    have Z3 : w2.heap.size ≤ w3.heap.size := by first | exact hz3 | (simp at hz3; omega) | omega
    try (have ZS3 : w2.heap.size < w3.heap.size := by first | omega | (simp at hz3; omega))
    try (have Xw_3 : w.heap.size < w3.heap.size := by first | omega | (simp at hz3; omega))
    try (have XXw_3 : w.heap.size < w3.heap.size + 1 := by omega)
    try (have Xw2_3 : w2.heap.size < w3.heap.size := by first | omega | (simp at hz3; omega))
    try (have XXw2_3 : w2.heap.size < w3.heap.size + 1 := by omega)
    have b3 : Below w.heap.size w w3 := Below.trans (by (repeat (first | (with_reducible refine Below.drewN ?_) | (with_reducible refine Below.drew ?_) | ((with_reducible refine Below.alloc ?_ ?_ _); rotate_left; (first | omega | (simp <;> omega))) | ((with_reducible refine Below.setCell ?_ ?_ _); rotate_left; (first | omega | (simp <;> omega))) | (with_reducible exact Below.refl _ _) | (with_reducible assumption)))) (hb3.mono (by first | omega | (simp <;> omega)))
    have o1s_3 := OF.below (g := g1s) (a := (some ⟨g1s, 0, none⟩)) (n := n1) (c := n1) (xs := xs1) (by (repeat (first | (with_reducible assumption) | (with_reducible refine OF.draw ?_) | (with_reducible exact OF.made' (by simp) (by simp) (by omega)) | (with_reducible refine OF.alloc ?_ _) | ((with_reducible refine OF.setCell ?_ ?_ _); rotate_left; (first | omega | (simp <;> omega)))))) hb3 (Nat.le_refl _)
    clear o1s_2
    go_wp2_with fail
    refine (c_toComb' a1 n1 c1 xs1 i1 x1 _ (FS.below (B := w.heap.size) H1.out (by (repeat (first | (with_reducible refine Below.drewN ?_) | (with_reducible refine Below.drew ?_) | ((with_reducible refine Below.alloc ?_ ?_ _); rotate_left; (first | omega | (simp <;> omega))) | ((with_reducible refine Below.setCell ?_ ?_ _); rotate_left; (first | omega | (simp <;> omega))) | (with_reducible exact Below.refl _ _) | (with_reducible assumption)))) (Nat.le_refl _)) (by omega)).mono ?_
    rintro e w4 ⟨g1x, rfl, hb4, l0x, l1x, o1x_4⟩
    obtain ⟨hc4, hf4, hz4⟩ := bcell hb4
    have hk4 := bblk hb4
    have Z4 : w3.heap.size ≤ w4.heap.size := by first | exact hz4 | (simp at hz4; omega) | omega
    try (have ZS4 : w3.heap.size < w4.heap.size := by first | omega | (simp at hz4; omega))
    try (have Xw_4 : w.heap.size < w4.heap.size := by first | omega | (simp at hz4; omega))
    try (have XXw_4 : w.heap.size < w4.heap.size + 1 := by omega)
    try (have Xw2_4 : w2.heap.size < w4.heap.size := by first | omega | (simp at hz4; omega))
    try (have XXw2_4 : w2.heap.size < w4.heap.size + 1 := by omega)
    have b4 : Below w.heap.size w w4 := Below.trans (by (repeat (first | (with_reducible refine Below.drewN ?_) | (with_reducible refine Below.drew ?_) | ((with_reducible refine Below.alloc ?_ ?_ _); rotate_left; (first | omega | (simp <;> omega))) | ((with_reducible refine Below.setCell ?_ ?_ _); rotate_left; (first | omega | (simp <;> omega))) | (with_reducible exact Below.refl _ _) | (with_reducible assumption)))) (hb4.mono (by first | omega | (simp <;> omega)))
    try simp at l0x
    have q1x : w3.heap.size ≤ g1x ∧ g1x < w4.heap.size := by omega
    go_wp2_with fail
    refine (HI.out _ _ _ (FS.below (B := w4.heap.size) o1x_4.fs (by (repeat (first | (with_reducible refine Below.drewN ?_) | (with_reducible refine Below.drew ?_) | ((with_reducible refine Below.alloc ?_ ?_ _); rotate_left; (first | omega | (simp <;> omega))) | ((with_reducible refine Below.setCell ?_ ?_ _); rotate_left; (first | omega | (simp <;> omega))) | (with_reducible exact Below.refl _ _) | (with_reducible assumption)))) (Nat.le_refl _))).mono ?_
    rintro e w5 ⟨rfl, hb5⟩
    obtain ⟨hc5, hf5, hz5⟩ := bcell hb5
    have hk5 := bblk hb5
    have Z5 : w4.heap.size ≤ w5.heap.size := by first | exact hz5 | (simp at hz5; omega) | omega
    try (have ZS5 : w4.heap.size < w5.heap.size := by first | omega | (simp at hz5; omega))
    try (have Xw_5 : w.heap.size < w5.heap.size := by first | omega | (simp at hz5; omega))
    try (have XXw_5 : w.heap.size < w5.heap.size + 1 := by omega)
    try (have Xw2_5 : w2.heap.size < w5.heap.size := by first | omega | (simp at hz5; omega))
    try (have XXw2_5 : w2.heap.size < w5.heap.size + 1 := by omega)
    try (have Xw4_5 : w4.heap.size < w5.heap.size := by first | omega | (simp at hz5; omega))
    try (have XXw4_5 : w4.heap.size < w5.heap.size + 1 := by omega)
    have b5 : Below w.heap.size w w5 := Below.trans (by (repeat (first | (with_reducible refine Below.drewN ?_) | (with_reducible refine Below.drew ?_) | ((with_reducible refine Below.alloc ?_ ?_ _); rotate_left; (first | omega | (simp <;> omega))) | ((with_reducible refine Below.setCell ?_ ?_ _); rotate_left; (first | omega | (simp <;> omega))) | (with_reducible exact Below.refl _ _) | (with_reducible assumption)))) (hb5.mono (by first | omega | (simp <;> omega)))
    have o1x_5 := OF.below (g := g1x) (a := (some ⟨g1x, 0, none⟩)) (n := n1) (c := n1) (xs := xs1) (by (repeat (first | (with_reducible assumption) | (with_reducible refine OF.draw ?_) | (with_reducible exact OF.made' (by simp) (by simp) (by omega)) | (with_reducible refine OF.alloc ?_ _) | ((with_reducible refine OF.setCell ?_ ?_ _); rotate_left; (first | omega | (simp <;> omega)))))) hb5 (Nat.le_refl _)
    clear o1x_4
    go_wp2_with fail
    refine wp_region_grow [3] [2] (by kernel_rfl) (by kernel_rfl) (by kernel_rfl) ?_
    apply Exists.intro
    iterate 2 (apply lh_o; kernel_rfl; kernel_rfl; kernel_rfl; (intro W hW; have hWc := Grow.cells hW; have hWk := bblk hW; go_simp; exact ⟨OneV.mk _, Grow.refl _⟩))
    apply lh_w (fun g : Nat => Value.agg #[.slice (some ⟨g, 0, none⟩) n1 n1, .int .i64 i1, .float .f32 x1]) (fun g w' => w5.heap.size ≤ g ∧ g < w'.heap.size ∧ OF w' g (some ⟨g, 0, none⟩) n1 n1 xs1) 0 (fun g w w' h hg => ⟨h.1, Nat.lt_of_lt_of_le h.2.1 hg.size, OF.below h.2.2 hg (Nat.le_refl _)⟩) (fun i j h => by simp at h; first | exact h | (obtain ⟨i1, i2⟩ := i; obtain ⟨j1, j2⟩ := j; simp at h; simp [h]))
    kernel_rfl
    kernel_rfl
    kernel_rfl
    · intro W hW
      have hWc := Grow.cells hW
      go_simp
      exact (c_toComb' a1 n1 c1 xs1 i1 x1 W (FS.below (B := w.heap.size) H1.out (b5.trans (Below.mono hW b5.size)) (Nat.le_refl _)) (by omega)).mono fun e w' ⟨t1, he, hb, l0, l1, o1⟩ => ⟨t1, he, ⟨Nat.le_trans hW.size l0, l1, o1⟩, hb⟩
    exact anti
    intro g
    (apply lh_h; kernel_rfl; kernel_rfl; kernel_rfl; (intro W hW; obtain ⟨hG, hK⟩ := hW; have hWc := Grow.cells hG; go_simp; exact gV (c_eqComb' _ _ _ _ _ _ _ _ _ _ W (FS.below (B := w5.heap.size) o1x_5.fs hG (Nat.le_refl _)) (hK.2.2).fs (Alk.refl _) rfl)))
    (apply lh_o; kernel_rfl; kernel_rfl; kernel_rfl; (intro W hW; have hWc := Grow.cells hW; go_simp; exact ⟨OneV.mk _, Grow.refl _⟩))
    refine lh_nil ?_
    intro w6 hW6
    simp only [Act.put, List.setIfInBounds_toArray, List.set_cons_succ, List.set_cons_zero]
    have hb6 : Below w5.heap.size w5 w6 := hW6.1
    clear hW6
    obtain ⟨hc6, hf6, hz6⟩ := bcell hb6
    have hk6 := bblk hb6
    have Z6 : w5.heap.size ≤ w6.heap.size := by first | exact hz6 | (simp at hz6; omega) | omega
    try (have ZS6 : w5.heap.size < w6.heap.size := by first | omega | (simp at hz6; omega))
    try (have Xw_6 : w.heap.size < w6.heap.size := by first | omega | (simp at hz6; omega))
    try (have XXw_6 : w.heap.size < w6.heap.size + 1 := by omega)
    try (have Xw2_6 : w2.heap.size < w6.heap.size := by first | omega | (simp at hz6; omega))
    try (have XXw2_6 : w2.heap.size < w6.heap.size + 1 := by omega)
    try (have Xw4_6 : w4.heap.size < w6.heap.size := by first | omega | (simp at hz6; omega))
    try (have XXw4_6 : w4.heap.size < w6.heap.size + 1 := by omega)
    have b6 : Below w.heap.size w w6 := Below.trans (by (repeat (first | (with_reducible refine Below.drewN ?_) | (with_reducible refine Below.drew ?_) | ((with_reducible refine Below.alloc ?_ ?_ _); rotate_left; (first | omega | (simp <;> omega))) | ((with_reducible refine Below.setCell ?_ ?_ _); rotate_left; (first | omega | (simp <;> omega))) | (with_reducible exact Below.refl _ _) | (with_reducible assumption)))) (hb6.mono (by first | omega | (simp <;> omega)))
    have o1x_6 := OF.below (g := g1x) (a := (some ⟨g1x, 0, none⟩)) (n := n1) (c := n1) (xs := xs1) (by (repeat (first | (with_reducible assumption) | (with_reducible refine OF.draw ?_) | (with_reducible exact OF.made' (by simp) (by simp) (by omega)) | (with_reducible refine OF.alloc ?_ _) | ((with_reducible refine OF.setCell ?_ ?_ _); rotate_left; (first | omega | (simp <;> omega)))))) hb6 (Nat.le_refl _)
    clear o1x_5
    go_wp2
    go_ret
    exact ⟨rfl, by (repeat (first | (with_reducible refine Below.drewN ?_) | (with_reducible refine Below.drew ?_) | ((with_reducible refine Below.alloc ?_ ?_ _); rotate_left; (first | omega | (simp <;> omega))) | ((with_reducible refine Below.setCell ?_ ?_ _); rotate_left; (first | omega | (simp <;> omega))) | (with_reducible exact Below.refl _ _) | (with_reducible assumption)))⟩
  · go_enter Try.func7, Try.ntmps7
    go_wp2_with fail
    refine (c_szComb_no _ _ _ _ _ (1048576) _ (by omega) (by omega) M1 (by omega)).mono ?_
    rintro e w1 ⟨rfl, hb1⟩
    obtain ⟨hc1, hf1, hz1⟩ := bcell hb1
    have hk1 := bblk hb1
    have Z1 : w.heap.size ≤ w1.heap.size := by first | exact hz1 | (simp at hz1; omega) | omega
    try (have ZS1 : w.heap.size < w1.heap.size := by first | omega | (simp at hz1; omega))
    try (have Xw_1 : w.heap.size < w1.heap.size := by first | omega | (simp at hz1; omega))
    try (have XXw_1 : w.heap.size < w1.heap.size + 1 := by omega)
    have b1 : Below w.heap.size w w1 := Below.trans (by (repeat (first | (with_reducible refine Below.drewN ?_) | (with_reducible refine Below.drew ?_) | ((with_reducible refine Below.alloc ?_ ?_ _); rotate_left; (first | omega | (simp <;> omega))) | ((with_reducible refine Below.setCell ?_ ?_ _); rotate_left; (first | omega | (simp <;> omega))) | (with_reducible exact Below.refl _ _) | (with_reducible assumption)))) (hb1.mono (by first | omega | (simp <;> omega)))
    go_wp2
    go_ret
    exact ⟨rfl, by (repeat (first | (with_reducible refine Below.drewN ?_) | (with_reducible refine Below.drew ?_) | ((with_reducible refine Below.alloc ?_ ?_ _); rotate_left; (first | omega | (simp <;> omega))) | ((with_reducible refine Below.setCell ?_ ?_ _); rotate_left; (first | omega | (simp <;> omega))) | (with_reducible exact Below.refl _ _) | (with_reducible assumption)))⟩


theorem k_ValidComb (a1 : Option Addr) (n1 c1 : Nat) (xs1 : List Nat) (i1 : Int) (x1 : Nat) (w : World) (h_1 : FS w a1 n1 c1 xs1) :
    Calls Try.prog 7 #[.agg #[.slice a1 n1 c1, .int .i64 i1, .float .f32 x1]] w (RetV (.bool true) w) :=
  l_ValidComb a1 n1 c1 xs1 i1 x1 (valComb n1 xs1 i1 x1) w h_1 (fun W _ _ j1 => c_sValidComb _ _ _ _ _ _ W j1) (fun W _ _ j1 => c_ValidComb _ _ _ _ _ _ W j1)


end Go.Proofs.Ytdhiihmfgmempaa
