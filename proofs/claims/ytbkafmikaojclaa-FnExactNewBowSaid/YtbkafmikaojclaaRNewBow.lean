
/-
The law FnExactNewBow holds of every input: what the program returns is what the reference returns. No condition.
-/
import Derived.Test.YtbkafmikaojclaaRk
import Derived.Test.YtbkafmikaojclaaLoBow
import Derived.Test.YtbkafmikaojclaaRq
namespace Go.Proofs.Ytbkafmikaojclaa.fnExactNewBow
open Go.ChangeShapes Go.WideShapes Go.ChangeAt Go.RowKit
set_option linter.unusedVariables false

theorem own : ownKnob Try.prog.godebug = none := by kernel_rfl

set_option maxRecDepth 100000 in
theorem lifted (os : Os) (started : os.Started) (H : Type) (enc : TypeId × Value → H) :
    ReturnsInHanded {} Try.checked os 6 .any (Rows.fnExactNewBowSpec.pre6 enc Try.prog Try.f6 Rows.fnExactNewBowRow.domain false) (Rows.fnExactNewBowSpec.post enc Try.prog Try.f6 false true false false) := by
  refine returnsInHanded_of_change (C := Try.checked) own started (by kernel_rfl) Try.func6
    (ChangeSpec.witness6 (enc := enc) (C := Try.checked) false ⟨#[], #[.int .i64 0, .float .f32 0, .float .f32 0, .float .f32 0, .float .f32 0], []⟩ 8 (by kernel_rfl) (by kernel_rfl) (by kernel_rfl) (by kernel_rfl)) ?_
  intro W base args ds gs before hval0 hW hcnd _
  have hval : ∀ (j : Nat) t v, Try.f6.params[j]? = some t → args[j]? = some v → OkW Try.prog W base t v := fun j t v h1 h2 => ⟨hval0 j t v h1 h2⟩
  have hW' := hW
  obtain ⟨p, q, hA0, hV, rfl, hfz, hnd⟩ := hW
  have hA : DataW.TrodAll enc Try.prog W 0 (fun _ => true) true Try.f6.params.toList args.toList ds p := hA0
  rw [Try.params6] at hA hval
  obtain ⟨v0, vs0, d0, ds0, p0, q0, hargs, rfl, rfl, h0, r0⟩ := trodAll_cons hA
  obtain ⟨v1, vs1, d1, ds1, p1, q1, rfl, rfl, rfl, h1, r1⟩ := trodAll_cons r0
  obtain ⟨v2, vs2, d2, ds2, p2, q2, rfl, rfl, rfl, h2, r2⟩ := trodAll_cons r1
  obtain ⟨v3, vs3, d3, ds3, p3, q3, rfl, rfl, rfl, h3, r3⟩ := trodAll_cons r2
  obtain ⟨v4, vs4, d4, ds4, p4, q4, rfl, rfl, rfl, h4, r4⟩ := trodAll_cons r3
  obtain ⟨rfl, rfl, rfl⟩ := trodAll_nil r4
  obtain rfl : args = #[v0, v1, v2, v3, v4] := by cases args; simp_all
  obtain ⟨rfl, rfl⟩ := trodVars_none hV
  obtain ⟨a0, rfl, w0⟩ := val_int Try.underlying2 (hval 0 2 v0 rfl rfl)
  obtain ⟨a1, rfl, w1⟩ := val_f32 Try.underlying22 (hval 1 22 v1 rfl rfl)
  obtain ⟨a2, rfl, w2⟩ := val_f32 Try.underlying22 (hval 2 22 v2 rfl rfl)
  obtain ⟨a3, rfl, w3⟩ := val_f32 Try.underlying22 (hval 3 22 v3 rfl rfl)
  obtain ⟨a4, rfl, w4⟩ := val_f32 Try.underlying22 (hval 4 22 v4 rfl rfl)
  refine (k_NewBow a0 a1 w1 a2 a3 a4 W).mono fun e W' ⟨he, hb⟩ => ?_
  subst he
  exact ⟨_, rfl, law_post (by kernel_rfl) (by kernel_rfl) hW' rfl rfl rfl Try.underlying4 hb⟩

theorem closed : joinedFacts Try.prog 6 Try.f6 Rows.fnExactNewBowSpec Rows.fnExactNewBowRow = true := by
  unfold joinedFacts
  repeat' (with_reducible refine Bool.and_eq_true_iff.2 ⟨?_, ?_⟩)
  all_goals first | (with_reducible exact q_enter) | (rw [q_lifts]; done) | (rw [q_lifts]; kernel_rfl) | (rw [q_make]; done) | (rw [q_make]; kernel_rfl) | kernel_rfl

theorem proved : Rows.FnExactNewBowSaid :=
  OpenClaim.holds_of_wide 6 Try.f6 rfl rfl rfl rfl rfl rfl rfl ⟨rfl, rfl, rfl, rfl, rfl⟩ rfl rfl rfl rfl rfl (by kernel_rfl) Try.func6 closed
    (of_decide_eq_true (by kernel_rfl)) (by unfold Func.isWrapper; first | (rw [if_pos (by decide +kernel)]; kernel_rfl) | (rw [if_neg (by decide +kernel)]; exact ⟨rfl, rfl⟩))
    (fun os started H enc _ => lifted os started H enc)

#print axioms proved
end Go.Proofs.Ytbkafmikaojclaa.fnExactNewBow

