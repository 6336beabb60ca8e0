
/-
Is a filter still.
-/
import Derived.Test.YtbdanadmabemdaaDoorDf
namespace Go.Proofs.YtbdanadmabemdaaDoor
open Go Go.RowKit Fl

def zeroB (a : Nat) : Bool := FloatKind.f32.format.order a 0 == some .eq
def stillB (s0 s1 : Nat) : Bool := zeroB s0 && zeroB s1
theorem c_toFloat32A3 (x0 x1 x2 : Nat) (w : World) : Calls Tryd.prog 53 #[.agg #[.float .f32 x0, .float .f32 x1, .float .f32 x2]] w (RetV (.agg #[.float .f32 x0, .float .f32 x1, .float .f32 x2]) w) := by
  go_enter Tryd.func53, Tryd.ntmps53
  go_wp2
  refine wp_loop_rounds 4 ?_
  iterate 3 (rw [rounds_succ]; go_wp2)
  rw [rounds_succ]
  go_wp2
  exact bodyPost_ret (v := .agg #[.float .f32 x0, .float .f32 x1, .float .f32 x2]) (by simp [results, Tryd.results53, go_sem]) rfl ⟨rfl, by (repeat (first | (with_reducible refine Below.drewN ?_) | (with_reducible refine Below.drew ?_) | ((with_reducible refine Below.alloc ?_ ?_ _); rotate_left; (first | omega | (simp <;> omega))) | ((with_reducible refine Below.setCell ?_ ?_ _); rotate_left; (first | omega | (simp <;> omega))) | (with_reducible exact Below.refl _ _) | (with_reducible assumption)))⟩
theorem c_toFloat32A2 (x0 x1 : Nat) (w : World) : Calls Tryd.prog 54 #[.agg #[.float .f32 x0, .float .f32 x1]] w (RetV (.agg #[.float .f32 x0, .float .f32 x1]) w) := by
  go_enter Tryd.func54, Tryd.ntmps54
  go_wp2
  refine wp_loop_rounds 3 ?_
  iterate 2 (rw [rounds_succ]; go_wp2)
  rw [rounds_succ]
  go_wp2
  exact bodyPost_ret (v := .agg #[.float .f32 x0, .float .f32 x1]) (by simp [results, Tryd.results54, go_sem]) rfl ⟨rfl, by (repeat (first | (with_reducible refine Below.drewN ?_) | (with_reducible refine Below.drew ?_) | ((with_reducible refine Below.alloc ?_ ?_ _); rotate_left; (first | omega | (simp <;> omega))) | ((with_reducible refine Below.setCell ?_ ?_ _); rotate_left; (first | omega | (simp <;> omega))) | (with_reducible exact Below.refl _ _) | (with_reducible assumption)))⟩
def filV (k : Int) (c0 c1 c2 s0 s1 : Nat) : Value := .agg #[.int .i64 k, .float .f32 c0, .float .f32 c1, .float .f32 c2, .float .f32 s0, .float .f32 s1]
theorem c_toFilter (k : Int) (c0 c1 c2 s0 s1 : Nat) (w : World) :
    Calls Tryd.prog 25 #[.agg #[.int .i64 k, .float .f32 c0, .float .f32 c1, .float .f32 c2, .float .f32 s0, .float .f32 s1]] w (RetV (.agg #[.int .i64 k, .float .f32 c0, .float .f32 c1, .float .f32 c2, .float .f32 s0, .float .f32 s1]) w) := by
  go_enter Tryd.func25, Tryd.ntmps25
  go_wp2_with fail
  refine (c_toFloat32A3 _ _ _ _).mono ?_
  rintro e w1 ⟨rfl, hb1⟩
  obtain ⟨hc1, hf1, hz1⟩ := bcell hb1
  have z1 : w.heap.size < w1.heap.size ∧ w.heap.size + 1 < w1.heap.size ∧ w.heap.size + 1 + 1 < w1.heap.size := by simp at hz1; omega
  obtain ⟨z1, z2, z3⟩ := z1
  go_wp2_with fail
  refine (c_toFloat32A2 _ _ _).mono ?_
  rintro e w2 ⟨rfl, hb2⟩
  obtain ⟨hc2, hf2, hz2⟩ := bcell hb2
  have y1 : w.heap.size < w2.heap.size ∧ w.heap.size + 1 < w2.heap.size ∧ w.heap.size + 1 + 1 < w2.heap.size := by simp at hz2; omega
  obtain ⟨y1, y2, y3⟩ := y1
  go_wp2
  refine bodyPost_ret (v := ?v) (by simp [results, Tryd.results25, go_sem, *]; rfl) rfl ?_
  refine ⟨rfl, ?_⟩
  have b1 : Below w.heap.size w w1 := Below.trans (by (repeat (first | (with_reducible refine Below.drewN ?_) | (with_reducible refine Below.drew ?_) | ((with_reducible refine Below.alloc ?_ ?_ _); rotate_left; (first | omega | (simp <;> omega))) | ((with_reducible refine Below.setCell ?_ ?_ _); rotate_left; (first | omega | (simp <;> omega))) | (with_reducible exact Below.refl _ _) | (with_reducible assumption)))) (hb1.mono (by simp <;> omega))
  have b2 : Below w.heap.size w w2 := Below.trans (by (repeat (first | (with_reducible refine Below.drewN ?_) | (with_reducible refine Below.drew ?_) | ((with_reducible refine Below.alloc ?_ ?_ _); rotate_left; (first | omega | (simp <;> omega))) | ((with_reducible refine Below.setCell ?_ ?_ _); rotate_left; (first | omega | (simp <;> omega))) | (with_reducible exact Below.refl _ _) | (with_reducible assumption)))) (hb2.mono (by simp <;> omega))
  (repeat (first | (with_reducible refine Below.drewN ?_) | (with_reducible refine Below.drew ?_) | ((with_reducible refine Below.alloc ?_ ?_ _); rotate_left; (first | omega | (simp <;> omega))) | ((with_reducible refine Below.setCell ?_ ?_ _); rotate_left; (first | omega | (simp <;> omega))) | (with_reducible exact Below.refl _ _) | (with_reducible assumption)))

def RetBI (b : Bool) (i : Int) (w : World) (e : Ending) (w' : World) : Prop := e = .returned (.tuple #[.bool b, .int .i64 i]) ∧ Below w.heap.size w w'
end Go.Proofs.YtbdanadmabemdaaDoor
