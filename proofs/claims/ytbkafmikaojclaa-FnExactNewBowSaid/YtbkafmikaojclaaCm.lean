
/-
Contracts of combs.
-/
import Derived.Test.YtbkafmikaojclaaSn
namespace Go.Proofs.Ytbkafmikaojclaa
open Go Go.RowKit Fl

theorem wf_zero (n : Nat) : (List.replicate n 0).length = n := by simp
/-- a new ring of silence -/
def NewR (n : Nat) (w : World) (v : Value → Value) (e : Ending) (w' : World) : Prop :=
  ∃ g, e = .returned (v (.slice (some ⟨g, 0, none⟩) n n)) ∧ Below w.heap.size w w' ∧ w.heap.size ≤ g ∧ g < w'.heap.size ∧ OF w' g (some ⟨g, 0, none⟩) n n (List.replicate n 0)
theorem c_NewRing (n : Nat) (w : World) (h1 : 1 ≤ n) (h2 : n ≤ 1024) :
    Calls Try.prog 64 #[.int .i64 n] w (NewR n w fun s => .tuple #[.agg #[s, .int .i64 0], .int .i64 0]) := by
  have hin : inB n 1 1024 = true := by unfold inB; rw [decide_eq_true (show (1 : Int) ≤ n by omega), decide_eq_true (show (n : Int) ≤ 1024 by omega)]; rfl
  have hmk := mk_f32 n (by omega)
  go_enter Try.func64, Try.ntmps64
  go_wp2_with (go_at_call 61; refine (c_within _ _ _ _).mono ?_; rintro e w' ⟨rfl, n1, rfl⟩)
  clear hmk hin
  refine bodyPost_ret (v := ?v) (by simp [results, Try.results64, go_sem]; rfl) rfl ?_
  exact ⟨_, rfl, by (repeat (first | (with_reducible refine Below.drewN ?_) | (with_reducible refine Below.drew ?_) | ((with_reducible refine Below.alloc ?_ ?_ _); rotate_left; (first | omega | (simp <;> omega))) | ((with_reducible refine Below.setCell ?_ ?_ _); rotate_left; (first | omega | (simp <;> omega))) | (with_reducible exact Below.refl _ _) | (with_reducible assumption))), by simp, by simp, by (repeat (first | (with_reducible assumption) | (with_reducible refine OF.draw ?_) | (with_reducible exact OF.made' (by simp) (by simp) (by omega)) | (with_reducible refine OF.alloc ?_ _) | ((with_reducible refine OF.setCell ?_ ?_ _); rotate_left; (first | omega | (simp <;> omega)))))⟩
def NewComb (n1 : Nat) (xs1 : List Nat) (i1 : Int) (x1 : Nat) (code : Int) (w : World) (e : Ending) (w' : World) : Prop :=
  ∃ (a1 : Option Addr) (c1 g1 t_x1 : Nat), e = .returned (.tuple #[.agg #[.slice a1 n1 c1, .int .i64 i1, .float .f32 (nv .f32 x1 t_x1)], .int .i64 code]) ∧ Below w.heap.size w w' ∧ (0 < n1 → w.heap.size ≤ g1 ∧ g1 < w'.heap.size) ∧ OF w' g1 a1 n1 c1 xs1



def openB (x : Nat) : Bool := FloatKind.f32.format.order x 3212836864 == some .gt && FloatKind.f32.format.order x 1065353216 == some .lt
theorem in_range {n : Nat} (h1 : 1 ≤ n) (h2 : n ≤ 1024) : inB n 1 1024 = true := by unfold inB; rw [decide_eq_true (show (1 : Int) ≤ n by omega), decide_eq_true (show (n : Int) ≤ 1024 by omega)]; rfl
theorem NewComb.zero {w w' : World} {code : Int} (hb : Below w.heap.size w w') : NewComb 0 [] 0 0 code w (.returned (.tuple #[.agg #[.slice none 0 0, .int .i64 0, .float .f32 0], .int .i64 code])) w' :=
  ⟨none, 0, 0, 0, rfl, hb, fun h => absurd h (by omega), OF.nil _ _⟩
end Go.Proofs.Ytbkafmikaojclaa
