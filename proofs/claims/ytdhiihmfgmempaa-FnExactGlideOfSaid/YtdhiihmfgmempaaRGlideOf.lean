
/-
The law FnExactGlideOf holds of every input: what the program returns is what the reference returns. No condition.
-/
import Derived.Test.YtdhiihmfgmempaaRk
import Derived.Test.YtdhiihmfgmempaaGl
import Derived.Test.YtdhiihmfgmempaaRq
namespace Go.Proofs.Ytdhiihmfgmempaa.fnExactGlideOf
open Go.ChangeShapes Go.WideShapes Go.ChangeAt Go.RowKit
set_option linter.unusedVariables false

theorem own : ownKnob Try.prog.godebug = none := by kernel_rfl

set_option maxRecDepth 100000 in
theorem lifted (os : Os) (started : os.Started) (H : Type) (enc : TypeId × Value → H) :
    ReturnsInHanded {} Try.checked os 13 .any (Rows.fnExactGlideOfSpec.pre6 enc Try.prog Try.f13 Rows.fnExactGlideOfRow.domain false) (Rows.fnExactGlideOfSpec.post enc Try.prog Try.f13 false true false false) := by
  refine returnsInHanded_of_change (C := Try.checked) own started (by kernel_rfl) Try.func13
    (ChangeSpec.witness6 (enc := enc) (C := Try.checked) false ⟨#[], #[.float .f32 0, .float .f32 0, .int .i64 0], []⟩ 8 (by kernel_rfl) (by kernel_rfl) (by kernel_rfl) (by kernel_rfl)) ?_
  intro W base args ds gs before hval0 hW hcnd _
  have hval : ∀ (j : Nat) t v, Try.f13.params[j]? = some t → args[j]? = some v → OkW Try.prog W base t v := fun j t v h1 h2 => ⟨hval0 j t v h1 h2⟩
  have hW' := hW
  obtain ⟨p, q, hA0, hV, rfl, hfz, hnd⟩ := hW
  have hA : DataW.TrodAll enc Try.prog W 0 (fun _ => true) true Try.f13.params.toList args.toList ds p := hA0
  rw [Try.params13] at hA hval
  obtain ⟨v0, vs0, d0, ds0, p0, q0, hargs, rfl, rfl, h0, r0⟩ := trodAll_cons hA
  obtain ⟨v1, vs1, d1, ds1, p1, q1, rfl, rfl, rfl, h1, r1⟩ := trodAll_cons r0
  obtain ⟨v2, vs2, d2, ds2, p2, q2, rfl, rfl, rfl, h2, r2⟩ := trodAll_cons r1
  obtain ⟨rfl, rfl, rfl⟩ := trodAll_nil r2
  obtain rfl : args = #[v0, v1, v2] := by cases args; simp_all
  obtain ⟨rfl, rfl⟩ := trodVars_none hV
  obtain ⟨a0, rfl, w0⟩ := val_f32 Try.underlying22 (hval 0 22 v0 rfl rfl)
  obtain ⟨a1, rfl, w1⟩ := val_f32 Try.underlying22 (hval 1 22 v1 rfl rfl)
  obtain ⟨a2, rfl, w2⟩ := val_int Try.underlying2 (hval 2 2 v2 rfl rfl)
  refine (k_GlideOf a0 a1 a2 W).mono fun e W' ⟨he, hb⟩ => ?_
  subst he
  exact ⟨_, rfl, law_post (by kernel_rfl) (by kernel_rfl) hW' rfl rfl rfl Try.underlying4 hb⟩

theorem closed : joinedFacts Try.prog 13 Try.f13 Rows.fnExactGlideOfSpec Rows.fnExactGlideOfRow = true := by
  unfold joinedFacts
  repeat' (with_reducible refine Bool.and_eq_true_iff.2 ⟨?_, ?_⟩)
  all_goals first | (with_reducible exact q_enter) | (rw [q_lifts]; done) | (rw [q_lifts]; kernel_rfl) | (rw [q_make]; done) | (rw [q_make]; kernel_rfl) | kernel_rfl

theorem proved : Rows.FnExactGlideOfSaid :=
  OpenClaim.holds_of_wide 13 Try.f13 rfl rfl rfl rfl rfl rfl rfl ⟨rfl, rfl, rfl, rfl, rfl⟩ rfl rfl rfl rfl rfl (by kernel_rfl) Try.func13 closed
    (of_decide_eq_true (by kernel_rfl)) (by unfold Func.isWrapper; first | (rw [if_pos (by decide +kernel)]; kernel_rfl) | (rw [if_neg (by decide +kernel)]; exact ⟨rfl, rfl⟩))
    (fun os started H enc _ => lifted os started H enc)

#print axioms proved
end Go.Proofs.Ytdhiihmfgmempaa.fnExactGlideOf

