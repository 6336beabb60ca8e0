
/-
Contracts of the smallest functions over floats.
-/
import Derived.Test.YtbdanadmabemdaaDoorFl
import Derived.Test.YtbdanadmabemdaaDoorRows
namespace Go.Proofs.YtbdanadmabemdaaDoor
open Go Go.RowKit Fl

@[go_sem ↓ high] theorem x_f32bits (b : Nat) (w : World) : (callFunc 90 #[.float .f32 b]).run Tryd.prog w = .ok (.value (.int .u32 b)) w := by
  rw [run_callFunc_extern (e := Extern.MathFloatBits.float32bits) Tryd.func90 (by kernel_rfl) (by kernel_rfl) (by kernel_rfl) (by kernel_rfl)]; rfl
def RetF (k : FloatKind) (b : Nat) (w : World) (e : Ending) (w' : World) : Prop := ∃ t n, e = .returned (.float k (nv k b t)) ∧ w' = w.drewN n
theorem RetF.mk {k : FloatKind} {b c t : Nat} {w w' : World} (h : b = c) (hw : ∃ n, w' = w.drewN n) : RetF k c w (.returned (.float k (nv k b t))) w' := by
  obtain ⟨n, hn⟩ := hw; exact ⟨t, n, by rw [h], hn⟩
theorem RetF.raw {k : FloatKind} {b c : Nat} {w w' : World} (h : b = c) (hw : ∃ n, w' = w.drewN n) : RetF k c w (.returned (.float k b)) w' := by
  obtain ⟨n, hn⟩ := hw; exact ⟨0, n, by rw [h]; rfl, hn⟩
theorem same0 (w : World) : ∃ n, w = w.drewN n := ⟨0, rfl⟩
theorem same1 (w : World) (n : Nat) : ∃ m, w.drewN n = w.drewN m := ⟨n, rfl⟩
def RetB (b : Bool) (w : World) (e : Ending) (w' : World) : Prop := e = .returned (.bool b) ∧ ∃ n, w' = w.drewN n

/-- is it finite -/
def finB (a : Nat) : Bool := FloatKind.f32.format.order (fop .sub .f32 a a) 0 == some .eq
theorem finB_nv (a t : Nat) : finB (nv .f32 a t) = finB a := by unfold finB; simp only [fop_nvl, fop_nvr]

theorem c_isFinite (a : Nat) (w : World) : Calls Tryd.prog 81 #[.float .f32 a] w (RetB (finB a) w) := by
  go_enter Tryd.func81, Tryd.ntmps81
  go_wp2
  go_ret
  exact ⟨rfl, _, rfl⟩
theorem c_l01Finite (a : Nat) (w : World) : Calls Tryd.prog 75 #[.float .f32 a] w (RetB (finB a) w) := by
  go_enter Tryd.func75, Tryd.ntmps75
  go_wp2
  go_ret
  exact ⟨rfl, _, rfl⟩

/-- a number within a limit -/
def clampF (a l : Nat) : Nat :=
  if FloatKind.f32.format.order a l == some .gt then l
  else if FloatKind.f32.format.order a (Op.negFloat .f32 l) == some .lt then Op.negFloat .f32 l else a

def clampT (a l t : Nat) : Nat :=
  if FloatKind.f32.format.order a l == some .gt then 0
  else if FloatKind.f32.format.order a (Op.negFloat .f32 l) == some .lt then 0 else t
@[go_sem] theorem clampF_nv (a l t : Nat) : clampF (nv .f32 a t) l = nv .f32 (clampF a l) (clampT a l t) := by
  unfold clampF clampT; simp only [order_nvl]
  split
  · rfl
  · split <;> rfl
attribute [go_sem] finB_nv ab_nv nv_nv

/-- two floats that read alike -/
theorem order_self (k : FloatKind) (x : Nat) (h : isNaN k x = false) : k.format.order x x = some .eq := by
  unfold isNaN at h
  unfold Ieee.Format.order
  generalize k.format.read x = d at h
  cases d with
  | nan s t => cases h
  | number s m e => simp [Ieee.Datum.order]
  | infinity s => simp [Ieee.Datum.order]

theorem c_sameFloat (a t u : Nat) (w : World) : Calls Tryd.prog 32 #[.float .f64 (nv .f64 a t), .float .f64 (nv .f64 a u)] w (RetB true w) := by
  by_cases h : isNaN .f64 a = true
  · have h1 := order_nan_left a h
    go_enter Tryd.func32, Tryd.ntmps32
    go_wp2
    go_ret
    exact ⟨rfl, same0 _⟩
  · have h1 := order_self .f64 a (by simpa using h)
    by_cases h0 : (FloatKind.f64.format.order a 0 == some .eq) = true
    · go_enter Tryd.func32, Tryd.ntmps32
      go_wp2
      go_ret
      exact ⟨by simp, same1 _ _⟩
    · have h0' : (FloatKind.f64.format.order a 0 == some .eq) = false := by simpa using h0
      clear h0
      go_enter Tryd.func32, Tryd.ntmps32
      go_wp2
      go_ret
      exact ⟨rfl, same0 _⟩
/-- what a jet makes of a pressure -/
def jetF (a : Nat) : Nat := clampF (fop .mul .f32 a (fop .sub .f32 (fop .mul .f32 a a) 1065353216)) 1065353216
end Go.Proofs.YtbdanadmabemdaaDoor
