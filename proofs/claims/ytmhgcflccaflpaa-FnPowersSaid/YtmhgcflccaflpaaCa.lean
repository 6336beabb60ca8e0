
/-
Contracts of the smallest functions over floats.
-/
import Derived.Test.YtmhgcflccaflpaaFl
import Derived.Test.YtmhgcflccaflpaaRows
namespace Go.Proofs.Ytmhgcflccaflpaa
open Go Go.RowKit Fl

@[go_sem ↓ high] theorem x_f64bits (b : Nat) (w : World) : (callFunc 55 #[.float .f64 b]).run Try.prog w = .ok (.value (.int .u64 b)) w := by
  rw [run_callFunc_extern (e := Extern.MathFloatBits.float64bits) Try.func55 (by kernel_rfl) (by kernel_rfl) (by kernel_rfl) (by kernel_rfl)]; rfl
@[go_sem ↓ high] theorem x_f64frombits (b : Nat) (w : World) : (callFunc 54 #[.int .u64 (b : Int)]).run Try.prog w = .ok (.value (.float .f64 b)) w := by
  rw [run_callFunc_extern (e := Extern.MathFloatBits.float64frombits) Try.func54 (by kernel_rfl) (by kernel_rfl) (by kernel_rfl) (by kernel_rfl)]; rfl
@[go_sem ↓ high] theorem x_f32bits (b : Nat) (w : World) : (callFunc 41 #[.float .f32 b]).run Try.prog w = .ok (.value (.int .u32 b)) w := by
  rw [run_callFunc_extern (e := Extern.MathFloatBits.float32bits) Try.func41 (by kernel_rfl) (by kernel_rfl) (by kernel_rfl) (by kernel_rfl)]; rfl
@[go_sem ↓ high] theorem x_f32frombits (b : Nat) (w : World) : (callFunc 38 #[.int .u32 (b : Int)]).run Try.prog w = .ok (.value (.float .f32 b)) w := by
  rw [run_callFunc_extern (e := Extern.MathFloatBits.float32frombits) Try.func38 (by kernel_rfl) (by kernel_rfl) (by kernel_rfl) (by kernel_rfl)]; rfl

def RetF (k : FloatKind) (b : Nat) (w : World) (e : Ending) (w' : World) : Prop := ∃ t n, e = .returned (.float k (nv k b t)) ∧ w' = w.drewN n
theorem RetF.mk {k : FloatKind} {b c t : Nat} {w w' : World} (h : b = c) (hw : ∃ n, w' = w.drewN n) : RetF k c w (.returned (.float k (nv k b t))) w' := by
  obtain ⟨n, hn⟩ := hw; exact ⟨t, n, by rw [h], hn⟩
theorem RetF.raw {k : FloatKind} {b c : Nat} {w w' : World} (h : b = c) (hw : ∃ n, w' = w.drewN n) : RetF k c w (.returned (.float k b)) w' := by
  obtain ⟨n, hn⟩ := hw; exact ⟨0, n, by rw [h]; rfl, hn⟩
theorem same0 (w : World) : ∃ n, w = w.drewN n := ⟨0, rfl⟩
theorem same1 (w : World) (n : Nat) : ∃ m, w.drewN n = w.drewN m := ⟨n, rfl⟩
def RetB (b : Bool) (w : World) (e : Ending) (w' : World) : Prop := e = .returned (.bool b) ∧ ∃ n, w' = w.drewN n

/-- is it finite -/
def finB (a : Nat) : Bool := FloatKind.f32.format.order (fop .sub .f32 a a) 0 == some .eq
theorem finB_nv (a t : Nat) : finB (nv .f32 a t) = finB a := by unfold finB; simp only [fop_nvl, fop_nvr]

theorem c_isFinite (a : Nat) (w : World) : Calls Try.prog 48 #[.float .f32 a] w (RetB (finB a) w) := by
  go_enter Try.func48, Try.ntmps48
  go_wp2
  go_ret
  exact ⟨rfl, _, rfl⟩
theorem c_l01Finite (a : Nat) (w : World) : Calls Try.prog 51 #[.float .f32 a] w (RetB (finB a) w) := by
  go_enter Try.func51, Try.ntmps51
  go_wp2
  go_ret
  exact ⟨rfl, _, rfl⟩

/-- a number within a limit -/
def clampF (a l : Nat) : Nat :=
  if FloatKind.f32.format.order a l == some .gt then l
  else if FloatKind.f32.format.order a (Op.negFloat .f32 l) == some .lt then Op.negFloat .f32 l else a

def clampT (a l t : Nat) : Nat :=
  if FloatKind.f32.format.order a l == some .gt then 0
  else if FloatKind.f32.format.order a (Op.negFloat .f32 l) == some .lt then 0 else t
@[go_sem] theorem clampF_nv (a l t : Nat) : clampF (nv .f32 a t) l = nv .f32 (clampF a l) (clampT a l t) := by
  unfold clampF clampT; simp only [order_nvl]
  split
  · rfl
  · split <;> rfl
attribute [go_sem] finB_nv ab_nv nv_nv

theorem c_ClampSample (a l : Nat) (w : World) : Calls Try.prog 11 #[.float .f32 a, .float .f32 l] w (RetF .f32 (clampF a l) w) := by
  go_enter Try.func11, Try.ntmps11
  go_wp2
  all_goals go_ret
  · exact .raw (by unfold clampF; rw [if_pos ‹_›]) (same0 _)
  · exact .raw (by unfold clampF; rw [if_neg (by simp only [*]; decide), if_pos ‹_›]) (same0 _)
  · exact .raw (by unfold clampF; rw [if_neg (by simp only [*]; decide), if_neg (by simp only [*]; decide)]) (same0 _)
/-- two floats that read alike -/
theorem order_self (k : FloatKind) (x : Nat) (h : isNaN k x = false) : k.format.order x x = some .eq := by
  unfold isNaN at h
  unfold Ieee.Format.order
  generalize k.format.read x = d at h
  cases d with
  | nan s t => cases h
  | number s m e => simp [Ieee.Datum.order]
  | infinity s => simp [Ieee.Datum.order]

theorem c_Abs (a : Nat) (w : World) : Calls Try.prog 40 #[.float .f64 a] w (RetF .f64 (ab .f64 a) w) := by
  go_enter Try.func40, Try.ntmps40
  go_wp2
  obtain ⟨u, hu⟩ := low_ab .f64 a 0
  go_ret
  exact ⟨u, 0, congrArg (fun x => Ending.returned (.float .f64 x)) hu, rfl⟩
theorem c_l01Abs (a : Nat) (w : World) : Calls Try.prog 52 #[.float .f32 a] w (RetF .f32 (ab .f32 a) w) := by
  go_enter Try.func52, Try.ntmps52
  go_wp2
  obtain ⟨u, hu⟩ := low_ab .f32 a 0
  go_ret
  exact ⟨u, 0, congrArg (fun x => Ending.returned (.float .f32 x)) hu, rfl⟩
theorem c_absolute (a : Nat) (w : World) : Calls Try.prog 24 #[.float .f32 a] w (RetF .f32 (ab .f32 a) w) := by
  go_enter Try.func24, Try.ntmps24
  go_wp2_with (go_at_call 40; refine (c_Abs _ _).mono ?_; rintro e w' ⟨t1, n1, rfl, rfl⟩)
  go_ret
  exact .mk (down_ab_up a) (same1 _ _)

/-- what a jet makes of a pressure -/
def jetF (a : Nat) : Nat := clampF (fop .mul .f32 a (fop .sub .f32 (fop .mul .f32 a a) 1065353216)) 1065353216
end Go.Proofs.Ytmhgcflccaflpaa
