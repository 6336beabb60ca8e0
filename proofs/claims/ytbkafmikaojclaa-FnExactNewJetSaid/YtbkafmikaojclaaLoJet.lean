
/-
The law of new jets.
-/
import Derived.Test.YtbkafmikaojclaaNj
import Derived.Test.YtbkafmikaojclaaLnJet
namespace Go.Proofs.Ytbkafmikaojclaa
open Go Go.RowKit Fl
theorem k_NewJet (th bo : Int) (ke ne fa : Nat) (w : World) :
    Calls Try.prog 3 #[.int .i64 th, .int .i64 bo, .float .f32 ke, .float .f32 ne, .float .f32 fa] w (RetV (.bool true) w) := by
  cases h : newJetB th bo ke ne fa
  · exact l_NewJet th bo ke ne fa 0 [] 0 0 [] 0 0 0 0 0 0 0 0 0 0 0 0 0 0 0 2 w (by omega) (by omega) (fun w => c_sNewJet_no th bo ke ne fa w h) (fun w => c_NewJet_no th bo ke ne fa w h)
  · have h1 : inB th 1 1024 = true := by unfold newJetB at h; simp only [Bool.and_eq_true] at h; exact h.1
    have h2 : inB bo 1 1024 = true := by unfold newJetB at h; simp only [Bool.and_eq_true] at h; exact h.2.1
    have t1 := inB_yes h1
    have t2 := inB_yes h2
    obtain ⟨t, rfl⟩ : ∃ t : Nat, th = t := ⟨th.toNat, by omega⟩
    obtain ⟨b, rfl⟩ : ∃ b : Nat, bo = b := ⟨bo.toNat, by omega⟩
    exact l_NewJet t b ke ne fa _ _ _ _ _ _ _ _ _ _ _ _ _ _ _ _ _ _ _ _ _ w (by omega) (by omega) (fun w => c_sNewJet_ok t b ke ne fa w h) (fun w => c_NewJet_ok t b ke ne fa w h)
end Go.Proofs.Ytbkafmikaojclaa
