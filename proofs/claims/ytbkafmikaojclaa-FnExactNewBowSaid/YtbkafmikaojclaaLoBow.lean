
/-
The law of new bows.
-/
import Derived.Test.YtbkafmikaojclaaNb
import Derived.Test.YtbkafmikaojclaaLnBow
namespace Go.Proofs.Ytbkafmikaojclaa
open Go Go.RowKit Fl
theorem k_NewBow (p : Int) (pl : Nat) (hp : pl < 4294967296) (ke lo sl : Nat) (w : World) :
    Calls Try.prog 6 #[.int .i64 p, .float .f32 pl, .float .f32 ke, .float .f32 lo, .float .f32 sl] w (RetV (.bool true) w) := by
  cases h : newBowB p pl ke lo sl
  · exact l_NewBow p pl ke lo sl 0 [] 0 0 [] 0 0 0 0 0 0 0 0 0 2 w (by omega) (by omega) (fun w => c_sNewBow_no p pl ke lo sl w h) (fun w => c_NewBow_no p pl ke lo sl w h)
  · have h1 : inB p 2 1024 = true := by unfold newBowB at h; simp only [Bool.and_eq_true] at h; exact h.1
    have h2 : insB pl 0 1065353216 = true := by unfold newBowB at h; simp only [Bool.and_eq_true] at h; exact h.2.1
    have t1 := inB_yes h1
    obtain ⟨t, rfl⟩ : ∃ t : Nat, p = t := ⟨p.toNat, by omega⟩
    obtain ⟨m, m1, m2, m3, m4⟩ := bow_facts (p := t) (pl := pl) (by omega) (by omega) hp h2
    have hN : bowN t m ≤ 1024 := by unfold bowN; omega
    exact l_NewBow t pl ke lo sl _ _ _ _ _ _ _ _ _ _ _ _ _ _ _ w (by omega) (by omega) (fun w => c_sNewBow_ok t m pl ke lo sl w h m1 m2 m3 m4) (fun w => c_NewBow_ok t m pl ke lo sl w h m1 m2 m3 m4)
end Go.Proofs.Ytbkafmikaojclaa
