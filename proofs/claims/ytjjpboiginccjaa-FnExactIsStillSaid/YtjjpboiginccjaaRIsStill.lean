
/-
The law FnExactIsStill holds of every input: what the program returns is what the reference returns. No condition.
-/
import Derived.Test.YtjjpboiginccjaaRk
import Derived.Test.YtjjpboiginccjaaDg
namespace Go.Proofs.Ytjjpboiginccjaa.fnExactIsStill
open Go.ChangeShapes Go.WideShapes Go.ChangeAt Go.RowKit
set_option linter.unusedVariables false

theorem own : ownKnob Try.prog.godebug = none := by kernel_rfl

set_option maxRecDepth 100000 in
theorem lifted (os : Os) (started : os.Started) (H : Type) (enc : TypeId × Value → H) :
    ReturnsInHanded {} Try.checked os 12 .any (Rows.fnExactIsStillSpec.pre6 enc Try.prog Try.f12 Rows.fnExactIsStillRow.domain false) (Rows.fnExactIsStillSpec.post enc Try.prog Try.f12 false true false false) := by
  refine returnsInHanded_of_change (C := Try.checked) own started (by kernel_rfl) Try.func12
    (ChangeSpec.witness6 (enc := enc) (C := Try.checked) false ⟨#[], #[.agg #[.int .i64 0, .float .f32 0, .float .f32 0, .float .f32 0, .float .f32 0, .float .f32 0]], []⟩ 8 (by kernel_rfl) (by kernel_rfl) (by kernel_rfl) (by kernel_rfl)) ?_
  intro W base args ds gs before hval0 hW hcnd _
  have hval : ∀ (j : Nat) t v, Try.f12.params[j]? = some t → args[j]? = some v → OkW Try.prog W base t v := fun j t v h1 h2 => ⟨hval0 j t v h1 h2⟩
  have hW' := hW
  obtain ⟨p, q, hA0, hV, rfl, hfz, hnd⟩ := hW
  have hA : DataW.TrodAll enc Try.prog W 0 (fun _ => true) true Try.f12.params.toList args.toList ds p := hA0
  rw [Try.params12] at hA hval
  obtain ⟨v0, vs0, d0, ds0, p0, q0, hargs, rfl, rfl, h0, r0⟩ := trodAll_cons hA
  obtain ⟨rfl, rfl, rfl⟩ := trodAll_nil r0
  obtain rfl : args = #[v0] := by cases args; simp_all
  obtain ⟨rfl, rfl⟩ := trodVars_none hV
  obtain ⟨cs0, rfl, hn0, hc0⟩ := agg_open (P := Try.prog) (ts := [2, 22, 22, 22, 22, 22]) (.inr ⟨_, Try.underlying64⟩) (by kernel_rfl) (n := 6) (by kernel_rfl) (hval 0 64 v0 rfl rfl)
  obtain ⟨c0_0, cs0, rfl, hn0_0⟩ := len_cons (n := 5) hn0
  obtain ⟨c0_1, cs0, rfl, hn0_1⟩ := len_cons (n := 4) hn0_0
  obtain ⟨c0_2, cs0, rfl, hn0_2⟩ := len_cons (n := 3) hn0_1
  obtain ⟨c0_3, cs0, rfl, hn0_3⟩ := len_cons (n := 2) hn0_2
  obtain ⟨c0_4, cs0, rfl, hn0_4⟩ := len_cons (n := 1) hn0_3
  obtain ⟨c0_5, cs0, rfl, hn0_5⟩ := len_cons (n := 0) hn0_4
  obtain rfl := len_nil hn0_5
  obtain ⟨x0_0, rfl, b0_0⟩ := cell_int Try.underlying2 (hc0 0 _ _ rfl rfl)
  obtain ⟨x0_1, rfl, b0_1⟩ := cell_f32 Try.underlying22 (hc0 1 _ _ rfl rfl)
  obtain ⟨x0_2, rfl, b0_2⟩ := cell_f32 Try.underlying22 (hc0 2 _ _ rfl rfl)
  obtain ⟨x0_3, rfl, b0_3⟩ := cell_f32 Try.underlying22 (hc0 3 _ _ rfl rfl)
  obtain ⟨x0_4, rfl, b0_4⟩ := cell_f32 Try.underlying22 (hc0 4 _ _ rfl rfl)
  obtain ⟨x0_5, rfl, b0_5⟩ := cell_f32 Try.underlying22 (hc0 5 _ _ rfl rfl)
  refine (l_IsStill x0_0 x0_1 x0_2 x0_3 x0_4 x0_5 W).mono fun e W' ⟨he, hb⟩ => ?_
  subst he
  exact ⟨_, rfl, law_post (by kernel_rfl) (by kernel_rfl) hW' rfl rfl rfl Try.underlying4 hb⟩

theorem proved : Rows.FnExactIsStillSaid :=
  OpenClaim.holds_of_wide 12 Try.f12 rfl rfl rfl rfl rfl rfl rfl ⟨rfl, rfl, rfl, rfl, rfl⟩ rfl rfl rfl rfl rfl (by kernel_rfl) Try.func12 (by kernel_rfl)
    (of_decide_eq_true (by kernel_rfl)) (by unfold Func.isWrapper; first | (rw [if_pos (by decide +kernel)]; kernel_rfl) | (rw [if_neg (by decide +kernel)]; exact ⟨rfl, rfl⟩))
    (fun os started H enc _ => lifted os started H enc)

#print axioms proved
end Go.Proofs.Ytjjpboiginccjaa.fnExactIsStill

