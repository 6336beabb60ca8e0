
/-
Contracts of the floor, and of the parts of a delay.
-/
import Derived.Test.YtmhgcflccaflpaaCb
import Derived.Test.YtmhgcflccaflpaaNf
namespace Go.Proofs.Ytmhgcflccaflpaa
open Go Go.RowKit Fl

theorem run_whole (P : Program) (w : World) (x : Nat) (name : String) (way : Ieee.Toward) (h : isNaN .f64 x = false) : (Extern.MathFloor.toIntegral name way #[.float .f64 x]).run P w = .ok (.float .f64 (whole way x)) w := by
  have h0 := h
  unfold isNaN at h
  have key : ∀ d, FloatKind.f64.decode x = d → d.isNaN = false → Extern.MathFloor.toIntegral name way #[.float .f64 x] = pure (.float .f64 (FloatKind.f64.encode (d.integral way))) := by
    intro d hd hn
    unfold Extern.MathFloor.toIntegral
    cases d with
    | nan s t => cases hn
    | infinity s =>
      conv => lhs; whnf
      rw [hd]
    | number s m e =>
      conv => lhs; whnf
      rw [hd]
  rw [key _ rfl h]
  unfold whole
  rw [if_neg (by rw [h0]; decide)]
  rfl
theorem x_floor (x : Nat) (w : World) (h : isNaN .f64 x = false) : (callFunc 43 #[.float .f64 x]).run Try.prog w = .ok (.value (.float .f64 (whole .down x))) w := by
  rw [run_callFunc_extern (e := Extern.MathFloor.toIntegral ("math.archFloor") .down) Try.func43 (by kernel_rfl) (by kernel_rfl) (by kernel_rfl) (by kernel_rfl), run_whole _ _ _ _ _ h]; rfl
theorem x_even (x : Nat) (w : World) (h : isNaN .f64 x = false) : (callFunc 23 #[.float .f64 x]).run Try.prog w = .ok (.value (.float .f64 (whole .even x))) w := by
  rw [run_callFunc_extern (e := Extern.MathFloor.toIntegral ("math.RoundToEven") .even) Try.func23 (by kernel_rfl) (by kernel_rfl) (by kernel_rfl) (by kernel_rfl), run_whole _ _ _ _ _ h]; rfl
theorem c_Floor (x : Nat) (w : World) (h : isNaN .f64 x = false) : Calls Try.prog 28 #[.float .f64 x] w (RetF .f64 (whole .down x) w) := by
  have hx := fun w => x_floor x w h
  go_enter Try.func28, Try.ntmps28
  go_wp2
  go_ret
  exact .raw rfl (same0 _)

/-! ### the parts of a delay -/
theorem delay_facts {p : Nat} (hp : p < 4294967296) (h : insB p 1073741824 1148846080 = true) :
    ∃ m : Nat, 1 ≤ m ∧ m ≤ 1000 ∧ isNaN .f32 p = false ∧ whole .down (up p) = floatOfInt .f64 (m : Int) := by
  obtain ⟨h1, h2⟩ := insB_range hp (by decide) (by decide) (by decide) h
  have u1 : up 1073741824 ≤ up p := up_mono (Nat.lt_of_le_of_lt h2 (by decide)) h1
  have u2 : up p ≤ up 1148846080 := up_mono (by decide) h2
  have e1 : up 1073741824 = 4611686018427387904 := by decide +kernel
  have e2 : up 1148846080 = 4652007308841189376 := by decide +kernel
  have f1 := flo_mono u1
  have f2 := flo_mono u2
  rw [e1] at f1
  rw [e2] at f2
  have g1 : flo 4611686018427387904 = 2 := by decide +kernel
  have g2 : flo 4652007308841189376 = 1000 := by decide +kernel
  refine ⟨flo (up p), by omega, by omega, isNaN_pos (by rw [inf32]; omega), whole_down ?_⟩
  have := inf64
  rw [show FloatKind.f64.format = Ieee.double from rfl] at this
  omega

def RetIFI (i : Int) (b : Nat) (c : Int) (w : World) (e : Ending) (w' : World) : Prop := ∃ t n, e = .returned (.tuple #[.int .i64 i, .float .f32 (nv .f32 b t), .int .i64 c]) ∧ w' = w.drewN n
theorem RetIFI.mk {b c t : Nat} {j i : Int} {w w' : World} (h : b = c) (hw : ∃ n, w' = w.drewN n) : RetIFI j c i w (.returned (.tuple #[.int .i64 j, .float .f32 (nv .f32 b t), .int .i64 i])) w' := by
  obtain ⟨n, hn⟩ := hw; exact ⟨t, n, by rw [h], hn⟩
theorem RetIFI.raw {b c : Nat} {j i : Int} {w w' : World} (h : b = c) (hw : ∃ n, w' = w.drewN n) : RetIFI j c i w (.returned (.tuple #[.int .i64 j, .float .f32 b, .int .i64 i])) w' := by
  obtain ⟨n, hn⟩ := hw; exact ⟨0, n, by rw [h]; rfl, hn⟩
/-- the two parts -/
def DelayPost (p : Nat) (w : World) : Ending → World → Prop :=
  if insB p 1073741824 1148846080 then
    (fun e w' => ∃ m : Nat, whole .down (up p) = floatOfInt .f64 (m : Int) ∧ m ≤ 1000 ∧
      (if FloatKind.f32.format.order (fop .sub .f32 p (floatOfInt .f32 (m : Int))) 1048576000 == some .lt then RetIFI ((m : Int) - 1) (fop .sub .f32 p (floatOfInt .f32 ((m : Int) - 1))) 0 w e w'
        else RetIFI m (fop .sub .f32 p (floatOfInt .f32 (m : Int))) 0 w e w'))
  else RetIFI 0 0 2 w

theorem int_inj {m q : Nat} (hm : m < 2 ^ 53) (hq : q < 2 ^ 53) (h : floatOfInt .f64 (m : Int) = floatOfInt .f64 (q : Int)) : m = q := by
  have h1 := toInt_int hm
  have h2 := toInt_int hq
  rw [h, h2] at h1
  have := Option.some.inj h1
  omega
end Go.Proofs.Ytmhgcflccaflpaa
