
/-
The text of the bits of a sample: the program.
-/
import Derived.Test.YtbdanadmabemdaaDoorHa
import Derived.Test.YtbdanadmabemdaaDoorSf
import Derived.Test.YtbdanadmabemdaaDoorDf
namespace Go.Proofs.YtbdanadmabemdaaDoor
open Go Go.RowKit Fl
theorem hpF (s p : ByteArray) (w : World) (h : Lib.hasPrefix s.data.toList p.data.toList = false) : Calls Tryd.prog 92 #[.string s, .string p] w (fun e w' => e = .returned (.bool false) ∧ w' = w) := by
  have := Tryd.strings_HasPrefix s p w
  rw [h] at this
  exact this
theorem hpT (s p : ByteArray) (w : World) (h : Lib.hasPrefix s.data.toList p.data.toList = true) : Calls Tryd.prog 92 #[.string s, .string p] w (fun e w' => e = .returned (.bool true) ∧ w' = w) := by
  have := Tryd.strings_HasPrefix s p w
  rw [h] at this
  exact this
set_option maxRecDepth 100000 in
theorem c_rep0 (w : World) : Calls Tryd.prog 71 #[.string ⟨#[48]⟩, .int .i64 0] w (fun e w' => e = .returned (.string ⟨([] : List UInt8).toArray⟩) ∧ w' = w) := by
  go_enter Tryd.func71, Tryd.ntmps71
  go_wp2
  go_ret
  exact ⟨rfl, rfl⟩
set_option maxRecDepth 100000 in
theorem c_rep1 (w : World) : Calls Tryd.prog 71 #[.string ⟨#[48]⟩, .int .i64 1] w (fun e w' => e = .returned (.string ⟨([48] : List UInt8).toArray⟩) ∧ w' = w) := by
  go_enter Tryd.func71, Tryd.ntmps71
  go_wp2
  go_ret
  exact ⟨rfl, rfl⟩
set_option maxRecDepth 100000 in
theorem c_rep2 (w : World) : Calls Tryd.prog 71 #[.string ⟨#[48]⟩, .int .i64 2] w (fun e w' => e = .returned (.string ⟨([48, 48] : List UInt8).toArray⟩) ∧ w' = w) := by
  have ix : ∀ W, (Instr.index 9 (.string ⟨#[48]⟩) (.int .i64 0)).run Tryd.prog W = .ok (.int .u8 48) W := fun W => rfl
  go_enter Tryd.func71, Tryd.ntmps71
  go_wp2_with fail
  refine (Tryd.bits_Mul 1 2 (by decide) (by decide) _).mono ?_
  rintro e w' ⟨rfl, rfl⟩
  go_wp2_with fail
  refine (hpF _ _ _ ?_).mono ?_
  · decide
  rintro e w' ⟨rfl, rfl⟩
  go_wp2_with fail
  refine (hpF _ _ _ ?_).mono ?_
  · decide
  rintro e w' ⟨rfl, rfl⟩
  go_wp2_with fail
  refine (hpT _ _ _ ?_).mono ?_
  · decide
  rintro e w' ⟨rfl, rfl⟩
  go_wp2
  go_ret
  exact ⟨by first | rfl | kernel_rfl, rfl⟩
set_option maxRecDepth 100000 in
theorem c_rep3 (w : World) : Calls Tryd.prog 71 #[.string ⟨#[48]⟩, .int .i64 3] w (fun e w' => e = .returned (.string ⟨([48, 48, 48] : List UInt8).toArray⟩) ∧ w' = w) := by
  have ix : ∀ W, (Instr.index 9 (.string ⟨#[48]⟩) (.int .i64 0)).run Tryd.prog W = .ok (.int .u8 48) W := fun W => rfl
  go_enter Tryd.func71, Tryd.ntmps71
  go_wp2_with fail
  refine (Tryd.bits_Mul 1 3 (by decide) (by decide) _).mono ?_
  rintro e w' ⟨rfl, rfl⟩
  go_wp2_with fail
  refine (hpF _ _ _ ?_).mono ?_
  · decide
  rintro e w' ⟨rfl, rfl⟩
  go_wp2_with fail
  refine (hpF _ _ _ ?_).mono ?_
  · decide
  rintro e w' ⟨rfl, rfl⟩
  go_wp2_with fail
  refine (hpT _ _ _ ?_).mono ?_
  · decide
  rintro e w' ⟨rfl, rfl⟩
  go_wp2
  go_ret
  exact ⟨by first | rfl | kernel_rfl, rfl⟩
set_option maxRecDepth 100000 in
theorem c_rep4 (w : World) : Calls Tryd.prog 71 #[.string ⟨#[48]⟩, .int .i64 4] w (fun e w' => e = .returned (.string ⟨([48, 48, 48, 48] : List UInt8).toArray⟩) ∧ w' = w) := by
  have ix : ∀ W, (Instr.index 9 (.string ⟨#[48]⟩) (.int .i64 0)).run Tryd.prog W = .ok (.int .u8 48) W := fun W => rfl
  go_enter Tryd.func71, Tryd.ntmps71
  go_wp2_with fail
  refine (Tryd.bits_Mul 1 4 (by decide) (by decide) _).mono ?_
  rintro e w' ⟨rfl, rfl⟩
  go_wp2_with fail
  refine (hpF _ _ _ ?_).mono ?_
  · decide
  rintro e w' ⟨rfl, rfl⟩
  go_wp2_with fail
  refine (hpF _ _ _ ?_).mono ?_
  · decide
  rintro e w' ⟨rfl, rfl⟩
  go_wp2_with fail
  refine (hpT _ _ _ ?_).mono ?_
  · decide
  rintro e w' ⟨rfl, rfl⟩
  go_wp2
  go_ret
  exact ⟨by first | rfl | kernel_rfl, rfl⟩
set_option maxRecDepth 100000 in
theorem c_rep5 (w : World) : Calls Tryd.prog 71 #[.string ⟨#[48]⟩, .int .i64 5] w (fun e w' => e = .returned (.string ⟨([48, 48, 48, 48, 48] : List UInt8).toArray⟩) ∧ w' = w) := by
  have ix : ∀ W, (Instr.index 9 (.string ⟨#[48]⟩) (.int .i64 0)).run Tryd.prog W = .ok (.int .u8 48) W := fun W => rfl
  go_enter Tryd.func71, Tryd.ntmps71
  go_wp2_with fail
  refine (Tryd.bits_Mul 1 5 (by decide) (by decide) _).mono ?_
  rintro e w' ⟨rfl, rfl⟩
  go_wp2_with fail
  refine (hpF _ _ _ ?_).mono ?_
  · decide
  rintro e w' ⟨rfl, rfl⟩
  go_wp2_with fail
  refine (hpF _ _ _ ?_).mono ?_
  · decide
  rintro e w' ⟨rfl, rfl⟩
  go_wp2_with fail
  refine (hpT _ _ _ ?_).mono ?_
  · decide
  rintro e w' ⟨rfl, rfl⟩
  go_wp2
  go_ret
  exact ⟨by first | rfl | kernel_rfl, rfl⟩
set_option maxRecDepth 100000 in
theorem c_rep6 (w : World) : Calls Tryd.prog 71 #[.string ⟨#[48]⟩, .int .i64 6] w (fun e w' => e = .returned (.string ⟨([48, 48, 48, 48, 48, 48] : List UInt8).toArray⟩) ∧ w' = w) := by
  have ix : ∀ W, (Instr.index 9 (.string ⟨#[48]⟩) (.int .i64 0)).run Tryd.prog W = .ok (.int .u8 48) W := fun W => rfl
  go_enter Tryd.func71, Tryd.ntmps71
  go_wp2_with fail
  refine (Tryd.bits_Mul 1 6 (by decide) (by decide) _).mono ?_
  rintro e w' ⟨rfl, rfl⟩
  go_wp2_with fail
  refine (hpF _ _ _ ?_).mono ?_
  · decide
  rintro e w' ⟨rfl, rfl⟩
  go_wp2_with fail
  refine (hpF _ _ _ ?_).mono ?_
  · decide
  rintro e w' ⟨rfl, rfl⟩
  go_wp2_with fail
  refine (hpT _ _ _ ?_).mono ?_
  · decide
  rintro e w' ⟨rfl, rfl⟩
  go_wp2
  go_ret
  exact ⟨by first | rfl | kernel_rfl, rfl⟩
set_option maxRecDepth 100000 in
theorem c_rep7 (w : World) : Calls Tryd.prog 71 #[.string ⟨#[48]⟩, .int .i64 7] w (fun e w' => e = .returned (.string ⟨([48, 48, 48, 48, 48, 48, 48] : List UInt8).toArray⟩) ∧ w' = w) := by
  have ix : ∀ W, (Instr.index 9 (.string ⟨#[48]⟩) (.int .i64 0)).run Tryd.prog W = .ok (.int .u8 48) W := fun W => rfl
  go_enter Tryd.func71, Tryd.ntmps71
  go_wp2_with fail
  refine (Tryd.bits_Mul 1 7 (by decide) (by decide) _).mono ?_
  rintro e w' ⟨rfl, rfl⟩
  go_wp2_with fail
  refine (hpF _ _ _ ?_).mono ?_
  · decide
  rintro e w' ⟨rfl, rfl⟩
  go_wp2_with fail
  refine (hpF _ _ _ ?_).mono ?_
  · decide
  rintro e w' ⟨rfl, rfl⟩
  go_wp2_with fail
  refine (hpT _ _ _ ?_).mono ?_
  · decide
  rintro e w' ⟨rfl, rfl⟩
  go_wp2
  go_ret
  exact ⟨by first | rfl | kernel_rfl, rfl⟩
end Go.Proofs.YtbdanadmabemdaaDoor
