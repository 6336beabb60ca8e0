
/-
Contracts of the smallest functions over floats.
-/
import Derived.Test.YtbkafmikaojclaaFl
import Derived.Test.YtbkafmikaojclaaRows
namespace Go.Proofs.Ytbkafmikaojclaa
open Go Go.RowKit Fl

@[go_sem ↓ high] theorem x_f64bits (b : Nat) (w : World) : (callFunc 157 #[.float .f64 b]).run Try.prog w = .ok (.value (.int .u64 b)) w := by
  rw [run_callFunc_extern (e := Extern.MathFloatBits.float64bits) Try.func157 (by kernel_rfl) (by kernel_rfl) (by kernel_rfl) (by kernel_rfl)]; rfl
@[go_sem ↓ high] theorem x_f64frombits (b : Nat) (w : World) : (callFunc 160 #[.int .u64 (b : Int)]).run Try.prog w = .ok (.value (.float .f64 b)) w := by
  rw [run_callFunc_extern (e := Extern.MathFloatBits.float64frombits) Try.func160 (by kernel_rfl) (by kernel_rfl) (by kernel_rfl) (by kernel_rfl)]; rfl
@[go_sem ↓ high] theorem x_f32bits (b : Nat) (w : World) : (callFunc 147 #[.float .f32 b]).run Try.prog w = .ok (.value (.int .u32 b)) w := by
  rw [run_callFunc_extern (e := Extern.MathFloatBits.float32bits) Try.func147 (by kernel_rfl) (by kernel_rfl) (by kernel_rfl) (by kernel_rfl)]; rfl
@[go_sem ↓ high] theorem x_f32frombits (b : Nat) (w : World) : (callFunc 161 #[.int .u32 (b : Int)]).run Try.prog w = .ok (.value (.float .f32 b)) w := by
  rw [run_callFunc_extern (e := Extern.MathFloatBits.float32frombits) Try.func161 (by kernel_rfl) (by kernel_rfl) (by kernel_rfl) (by kernel_rfl)]; rfl

def RetF (k : FloatKind) (b : Nat) (w : World) (e : Ending) (w' : World) : Prop := ∃ t n, e = .returned (.float k (nv k b t)) ∧ w' = w.drewN n
theorem RetF.mk {k : FloatKind} {b c t : Nat} {w w' : World} (h : b = c) (hw : ∃ n, w' = w.drewN n) : RetF k c w (.returned (.float k (nv k b t))) w' := by
  obtain ⟨n, hn⟩ := hw; exact ⟨t, n, by rw [h], hn⟩
theorem RetF.raw {k : FloatKind} {b c : Nat} {w w' : World} (h : b = c) (hw : ∃ n, w' = w.drewN n) : RetF k c w (.returned (.float k b)) w' := by
  obtain ⟨n, hn⟩ := hw; exact ⟨0, n, by rw [h]; rfl, hn⟩
theorem same0 (w : World) : ∃ n, w = w.drewN n := ⟨0, rfl⟩
theorem same1 (w : World) (n : Nat) : ∃ m, w.drewN n = w.drewN m := ⟨n, rfl⟩
def RetB (b : Bool) (w : World) (e : Ending) (w' : World) : Prop := e = .returned (.bool b) ∧ ∃ n, w' = w.drewN n

/-- is it finite -/
def finB (a : Nat) : Bool := FloatKind.f32.format.order (fop .sub .f32 a a) 0 == some .eq
theorem finB_nv (a t : Nat) : finB (nv .f32 a t) = finB a := by unfold finB; simp only [fop_nvl, fop_nvr]

theorem c_isFinite (a : Nat) (w : World) : Calls Try.prog 84 #[.float .f32 a] w (RetB (finB a) w) := by
  go_enter Try.func84, Try.ntmps84
  go_wp2
  go_ret
  exact ⟨rfl, _, rfl⟩
theorem c_l01Finite (a : Nat) (w : World) : Calls Try.prog 80 #[.float .f32 a] w (RetB (finB a) w) := by
  go_enter Try.func80, Try.ntmps80
  go_wp2
  go_ret
  exact ⟨rfl, _, rfl⟩

/-- a number within a limit -/
def clampF (a l : Nat) : Nat :=
  if FloatKind.f32.format.order a l == some .gt then l
  else if FloatKind.f32.format.order a (Op.negFloat .f32 l) == some .lt then Op.negFloat .f32 l else a

def clampT (a l t : Nat) : Nat :=
  if FloatKind.f32.format.order a l == some .gt then 0
  else if FloatKind.f32.format.order a (Op.negFloat .f32 l) == some .lt then 0 else t
@[go_sem] theorem clampF_nv (a l t : Nat) : clampF (nv .f32 a t) l = nv .f32 (clampF a l) (clampT a l t) := by
  unfold clampF clampT; simp only [order_nvl]
  split
  · rfl
  · split <;> rfl
attribute [go_sem] finB_nv ab_nv nv_nv

/-- two floats that read alike -/
theorem order_self (k : FloatKind) (x : Nat) (h : isNaN k x = false) : k.format.order x x = some .eq := by
  unfold isNaN at h
  unfold Ieee.Format.order
  generalize k.format.read x = d at h
  cases d with
  | nan s t => cases h
  | number s m e => simp [Ieee.Datum.order]
  | infinity s => simp [Ieee.Datum.order]

theorem c_sameFloat (a t u : Nat) (w : World) : Calls Try.prog 69 #[.float .f64 (nv .f64 a t), .float .f64 (nv .f64 a u)] w (RetB true w) := by
  by_cases h : isNaN .f64 a = true
  · have h1 := order_nan_left a h
    go_enter Try.func69, Try.ntmps69
    go_wp2
    go_ret
    exact ⟨rfl, same0 _⟩
  · have h1 := order_self .f64 a (by simpa using h)
    by_cases h0 : (FloatKind.f64.format.order a 0 == some .eq) = true
    · go_enter Try.func69, Try.ntmps69
      go_wp2
      go_ret
      exact ⟨by simp, same1 _ _⟩
    · have h0' : (FloatKind.f64.format.order a 0 == some .eq) = false := by simpa using h0
      clear h0
      go_enter Try.func69, Try.ntmps69
      go_wp2
      go_ret
      exact ⟨rfl, same0 _⟩
theorem c_Abs (a : Nat) (w : World) : Calls Try.prog 163 #[.float .f64 a] w (RetF .f64 (ab .f64 a) w) := by
  go_enter Try.func163, Try.ntmps163
  go_wp2
  obtain ⟨u, hu⟩ := low_ab .f64 a 0
  go_ret
  exact ⟨u, 0, congrArg (fun x => Ending.returned (.float .f64 x)) hu, rfl⟩
theorem c_l01Abs (a : Nat) (w : World) : Calls Try.prog 141 #[.float .f32 a] w (RetF .f32 (ab .f32 a) w) := by
  go_enter Try.func141, Try.ntmps141
  go_wp2
  obtain ⟨u, hu⟩ := low_ab .f32 a 0
  go_ret
  exact ⟨u, 0, congrArg (fun x => Ending.returned (.float .f32 x)) hu, rfl⟩
/-- what a jet makes of a pressure -/
def jetF (a : Nat) : Nat := clampF (fop .mul .f32 a (fop .sub .f32 (fop .mul .f32 a a) 1065353216)) 1065353216
end Go.Proofs.Ytbkafmikaojclaa
