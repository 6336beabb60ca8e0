
/-
The test of combs; the law.
-/
import Derived.Test.YtfhegjjgfaeinaaRh
import Derived.Test.YtfhegjjgfaeinaaRi
import Derived.Test.YtfhegjjgfaeinaaLi
import Derived.Test.YtfhegjjgfaeinaaLw
import Derived.Test.YtfhegjjgfaeinaaLd
import Derived.Test.YtfhegjjgfaeinaaCm
namespace Go.Proofs.Ytfhegjjgfaeinaa
open Go Go.RowKit Fl
theorem c_rings1 (W : World) (g : Nat) (a1 : Option Addr) (n1 c1 : Nat) (xs1 : List Nat) (i1 : Int) (h_1 : FS W a1 n1 c1 xs1) {T : TypeId}
    (hg : W.heap[g]? = some (.cells #[.slice a1 n1 c1, .int .i64 i1] T)) :
    Calls Try.prog 118 #[.slice (some ⟨g, 0, none⟩) 1 1] W (RetB (ringB n1 i1 && finTo xs1 n1) W) :=
  c_l04Rings g 0 [⟨a1, n1, c1, xs1, i1⟩] 1 W (by simp) (fun j hj => by
    obtain rfl : j = 0 := Nat.lt_one_iff.1 hj
    exact ⟨cell_block hg _, cell_block hg _, h_1⟩)
def valComb (n1 : Nat) (xs1 : List Nat) (i1 : Int) (x1 : Nat) : Bool := (ringB n1 i1 && finTo xs1 n1) && (finB x1)
theorem c_ValidComb_ (a1 : Option Addr) (n1 c1 : Nat) (xs1 : List Nat) (i1 : Int) (x1 : Nat) (w : World) (h_1 : FS w a1 n1 c1 xs1) :
    Calls Try.prog 111 #[.agg #[.slice a1 n1 c1, .int .i64 i1, .float .f32 x1]] w (RetV (.bool ((ringB n1 i1 && finTo xs1 n1) && (finB x1))) w) := by
  have K1 : Hid (∀ W, Below w.heap.size w W → Calls Try.prog 52 #[.agg #[.slice a1 n1 c1, .int .i64 i1]] W (RetV (.bool (ringB n1 i1 && finTo xs1 n1)) W)) := fun W hb => c_isRing _ _ _ _ _ W (h_1.below hb (Nat.le_refl _))
  have K2 : Hid (∀ W, Calls Try.prog 67 #[.float .f32 x1] W (RetB (finB x1) W)) := fun W => c_isFinite _ W
  clear h_1
  rcases (Bool.eq_false_or_eq_true (ringB n1 i1 && finTo xs1 n1)).symm with h1 | h1
  · have e : ((ringB n1 i1 && finTo xs1 n1) && (finB x1)) = false := by rw [h1, Bool.false_and]
    rw [h1] at K1
    rw [e]
    clear e h1
    go_enter Try.func111, Try.ntmps111
    go_wp2_with fail
    refine (K1.out _ (by (repeat (first | (with_reducible refine Below.drewN ?_) | (with_reducible refine Below.drew ?_) | ((with_reducible refine Below.alloc ?_ ?_ _); rotate_left; (first | omega | (simp <;> omega))) | ((with_reducible refine Below.setCell ?_ ?_ _); rotate_left; (first | omega | (simp <;> omega))) | (with_reducible exact Below.refl _ _) | (with_reducible assumption))))).mono ?_
    rintro e w1 ⟨rfl, hb1⟩
    obtain ⟨hc1, hf1, hz1⟩ := bcell hb1
    try simp at hz1
    have zb1 : w.heap.size ≤ w1.heap.size := by omega
    try (have z1_0 : w.heap.size < w1.heap.size := by omega)
    try (have z1_1 : w.heap.size + 1 < w1.heap.size := by omega)
    try (have z1_2 : w.heap.size + 1 + 1 < w1.heap.size := by omega)
    try (have z1_3 : w.heap.size + 1 + 1 + 1 < w1.heap.size := by omega)
    have b1 : Below w.heap.size w w1 := Below.trans (by (repeat (first | (with_reducible refine Below.drewN ?_) | (with_reducible refine Below.drew ?_) | ((with_reducible refine Below.alloc ?_ ?_ _); rotate_left; (first | omega | (simp <;> omega))) | ((with_reducible refine Below.setCell ?_ ?_ _); rotate_left; (first | omega | (simp <;> omega))) | (with_reducible exact Below.refl _ _) | (with_reducible assumption)))) (hb1.mono (by first | omega | (simp <;> omega)))
    go_wp2
    go_ret
    exact ⟨rfl, by (repeat (first | (with_reducible refine Below.drewN ?_) | (with_reducible refine Below.drew ?_) | ((with_reducible refine Below.alloc ?_ ?_ _); rotate_left; (first | omega | (simp <;> omega))) | ((with_reducible refine Below.setCell ?_ ?_ _); rotate_left; (first | omega | (simp <;> omega))) | (with_reducible exact Below.refl _ _) | (with_reducible assumption)))⟩

  rw [h1] at K1
  have e : ((ringB n1 i1 && finTo xs1 n1) && (finB x1)) = (finB x1) := by rw [h1, Bool.true_and]
  rw [e]
  clear e h1
  go_enter Try.func111, Try.ntmps111
  go_wp2_with fail
  refine (K1.out _ (by (repeat (first | (with_reducible refine Below.drewN ?_) | (with_reducible refine Below.drew ?_) | ((with_reducible refine Below.alloc ?_ ?_ _); rotate_left; (first | omega | (simp <;> omega))) | ((with_reducible refine Below.setCell ?_ ?_ _); rotate_left; (first | omega | (simp <;> omega))) | (with_reducible exact Below.refl _ _) | (with_reducible assumption))))).mono ?_
  rintro e w1 ⟨rfl, hb1⟩
  obtain ⟨hc1, hf1, hz1⟩ := bcell hb1
  try simp at hz1
  have zb1 : w.heap.size ≤ w1.heap.size := by omega
  try (have z1_0 : w.heap.size < w1.heap.size := by omega)
  try (have z1_1 : w.heap.size + 1 < w1.heap.size := by omega)
  try (have z1_2 : w.heap.size + 1 + 1 < w1.heap.size := by omega)
  try (have z1_3 : w.heap.size + 1 + 1 + 1 < w1.heap.size := by omega)
  have b1 : Below w.heap.size w w1 := Below.trans (by (repeat (first | (with_reducible refine Below.drewN ?_) | (with_reducible refine Below.drew ?_) | ((with_reducible refine Below.alloc ?_ ?_ _); rotate_left; (first | omega | (simp <;> omega))) | ((with_reducible refine Below.setCell ?_ ?_ _); rotate_left; (first | omega | (simp <;> omega))) | (with_reducible exact Below.refl _ _) | (with_reducible assumption)))) (hb1.mono (by first | omega | (simp <;> omega)))
  go_wp2_with fail
  refine (K2.out _).mono ?_
  rintro e w' ⟨rfl, dq2, rfl⟩
  go_wp2
  go_ret
  exact ⟨rfl, by (repeat (first | (with_reducible refine Below.drewN ?_) | (with_reducible refine Below.drew ?_) | ((with_reducible refine Below.alloc ?_ ?_ _); rotate_left; (first | omega | (simp <;> omega))) | ((with_reducible refine Below.setCell ?_ ?_ _); rotate_left; (first | omega | (simp <;> omega))) | (with_reducible exact Below.refl _ _) | (with_reducible assumption)))⟩

theorem c_ValidComb (a1 : Option Addr) (n1 c1 : Nat) (xs1 : List Nat) (i1 : Int) (x1 : Nat) (w : World) (h_1 : FS w a1 n1 c1 xs1) :
    Calls Try.prog 111 #[.agg #[.slice a1 n1 c1, .int .i64 i1, .float .f32 x1]] w (RetV (.bool (valComb n1 xs1 i1 x1)) w) := c_ValidComb_ a1 n1 c1 xs1 i1 x1 w h_1

set_option maxRecDepth 100000 in
theorem c_l06Comb (b o : Nat) (a1 : Option Addr) (n1 c1 : Nat) (xs1 : List Nat) (i1 : Int) (x1 : Nat) (w : World) (h_1 : FS w a1 n1 c1 xs1)
    (hb : b < w.heap.size)
    (e0 : w.cell? ⟨b, o, none⟩ = some (.slice a1 n1 c1))
    (e1 : w.cell? ⟨b, o + 1, none⟩ = some (.int .i64 i1))
    (e2 : w.cell? ⟨b, o + 2, none⟩ = some (.float .f32 x1)) :
    Calls Try.prog 151 #[.pointer (some ⟨b, o, none⟩)] w (RetV (.bool ((ringB n1 i1 && finTo xs1 n1) && (finB x1))) w) := by
  have K1 : Hid (∀ W g, Grow w W → W.heap[g]? = some (.cells #[.slice a1 n1 c1, .int .i64 i1] 42) → Calls Try.prog 118 #[.slice (some ⟨g, 0, none⟩) 1 1] W (RetB (ringB n1 i1 && finTo xs1 n1) W)) := fun W g hW hg => c_rings1 W g _ _ _ _ _ (h_1.below hW (Nat.le_refl _)) hg
  have K2 : Hid (∀ W, Calls Try.prog 60 #[.float .f32 x1] W (RetB (finB x1) W)) := fun W => c_l01Finite _ W
  clear h_1
  rcases (Bool.eq_false_or_eq_true (ringB n1 i1 && finTo xs1 n1)).symm with h1 | h1
  · have e : ((ringB n1 i1 && finTo xs1 n1) && (finB x1)) = false := by rw [h1]; simp
    rw [e]
    rw [h1] at K1
    clear e h1
    go_enter Try.func151, Try.ntmps151
    go_wp2_with fail
    refine (K1.out _ w.heap.size ?_ ?_).mono ?_
    · show Below _ _ _
      (repeat (first | (with_reducible refine Below.drewN ?_) | (with_reducible refine Below.drew ?_) | ((with_reducible refine Below.alloc ?_ ?_ _); rotate_left; (first | omega | (simp <;> omega))) | ((with_reducible refine Below.setCell ?_ ?_ _); rotate_left; (first | omega | (simp <;> omega))) | (with_reducible exact Below.refl _ _) | (with_reducible assumption)))
    · exact (MapKept.heap_alloc w _).1
    rintro e w' ⟨rfl, n1, rfl⟩
    go_wp2
    go_ret
    exact ⟨rfl, by (repeat (first | (with_reducible refine Below.drewN ?_) | (with_reducible refine Below.drew ?_) | ((with_reducible refine Below.alloc ?_ ?_ _); rotate_left; (first | omega | (simp <;> omega))) | ((with_reducible refine Below.setCell ?_ ?_ _); rotate_left; (first | omega | (simp <;> omega))) | (with_reducible exact Below.refl _ _) | (with_reducible assumption)))⟩

  have e : ((ringB n1 i1 && finTo xs1 n1) && (finB x1)) = (finB x1) := by rw [h1]; simp
  rw [e]
  rw [h1] at K1
  clear e h1
  go_enter Try.func151, Try.ntmps151
  go_wp2_with fail
  refine (K1.out _ w.heap.size ?_ ?_).mono ?_
  · show Below _ _ _
    (repeat (first | (with_reducible refine Below.drewN ?_) | (with_reducible refine Below.drew ?_) | ((with_reducible refine Below.alloc ?_ ?_ _); rotate_left; (first | omega | (simp <;> omega))) | ((with_reducible refine Below.setCell ?_ ?_ _); rotate_left; (first | omega | (simp <;> omega))) | (with_reducible exact Below.refl _ _) | (with_reducible assumption)))
  · exact (MapKept.heap_alloc w _).1
  rintro e w' ⟨rfl, n1, rfl⟩
  go_wp2_with fail
  refine (K2.out _).mono ?_
  rintro e w' ⟨rfl, n2, rfl⟩
  go_wp2
  go_ret
  exact ⟨rfl, by (repeat (first | (with_reducible refine Below.drewN ?_) | (with_reducible refine Below.drew ?_) | ((with_reducible refine Below.alloc ?_ ?_ _); rotate_left; (first | omega | (simp <;> omega))) | ((with_reducible refine Below.setCell ?_ ?_ _); rotate_left; (first | omega | (simp <;> omega))) | (with_reducible exact Below.refl _ _) | (with_reducible assumption)))⟩

end Go.Proofs.Ytfhegjjgfaeinaa
