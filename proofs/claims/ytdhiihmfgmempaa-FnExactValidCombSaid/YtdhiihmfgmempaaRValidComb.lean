
/-
The law FnExactValidComb holds of every input: what the program returns is what the reference returns. No condition.
-/
import Derived.Test.YtdhiihmfgmempaaRt
import Derived.Test.YtdhiihmfgmempaaVb
namespace Go.Proofs.Ytdhiihmfgmempaa.fnExactValidComb
open Go.ChangeShapes Go.WideShapes Go.ChangeAt Go.RowKit
set_option linter.unusedVariables false

theorem own : ownKnob Try.prog.godebug = none := by kernel_rfl

set_option maxRecDepth 100000 in
theorem lifted (os : Os) (started : os.Started) (H : Type) (enc : TypeId × Value → H) :
    ReturnsInHanded {} Try.checked os 7 .any (Rows.fnExactValidCombSpec.pre6 enc Try.prog Try.f7 Rows.fnExactValidCombRow.domain false) (Rows.fnExactValidCombSpec.post enc Try.prog Try.f7 false true false false) := by
  refine returnsInHanded_of_change (C := Try.checked) own started (by kernel_rfl) Try.func7
    (ChangeSpec.witness6 (enc := enc) (C := Try.checked) false ⟨#[], #[.agg #[.slice none 0 0, .int .i64 0, .float .f32 0]], []⟩ 8 (by kernel_rfl) (by kernel_rfl) (by kernel_rfl) (by kernel_rfl)) ?_
  intro W base args ds gs before hval0 hW hcnd _
  have hval : ∀ (j : Nat) t v, Try.f7.params[j]? = some t → args[j]? = some v → OkW Try.prog W base t v := fun j t v h1 h2 => ⟨hval0 j t v h1 h2⟩
  have hW' := hW
  obtain ⟨p, q, hA0, hV, rfl, hfz, hnd⟩ := hW
  have hA : DataW.TrodAll enc Try.prog W 0 (fun _ => true) true Try.f7.params.toList args.toList ds p := hA0
  rw [Try.params7] at hA hval
  obtain ⟨v0, vs0, d0, ds0, p0, q0, hargs, rfl, rfl, h0, r0⟩ := trodAll_cons hA
  obtain ⟨rfl, rfl, rfl⟩ := trodAll_nil r0
  obtain rfl : args = #[v0] := by cases args; simp_all
  obtain ⟨rfl, rfl⟩ := trodVars_none hV
  obtain ⟨cs0, rfl, hn0, hc0⟩ := agg_open (P := Try.prog) (ts := [29, 2, 22]) (.inr ⟨_, Try.underlying46⟩) (by kernel_rfl) (n := 3) (by kernel_rfl) (hval 0 46 v0 rfl rfl)
  obtain ⟨c0_0, cs0, rfl, hn0_0⟩ := len_cons (n := 2) hn0
  obtain ⟨c0_1, cs0, rfl, hn0_1⟩ := len_cons (n := 1) hn0_0
  obtain ⟨c0_2, cs0, rfl, hn0_2⟩ := len_cons (n := 0) hn0_1
  obtain rfl := len_nil hn0_2
  obtain ⟨fu0, ht00⟩ := h0
  have ht0 : DataW.trod enc Try.prog W 0 (fun _ => true) true fu0 46 [c0_0, c0_1, c0_2] = some (d0, p0) := ht00
  obtain ⟨_, _, t0_0_0⟩ := trod_field' Try.underlying46 ht0 0 0 44 2 [c0_0, c0_1] (by kernel_rfl) (by kernel_rfl) rfl
  obtain ⟨_, _, t0_0_1⟩ := trod_field' Try.underlying44 t0_0_0 0 0 29 1 [c0_0] (by kernel_rfl) (by kernel_rfl) rfl
  obtain ⟨A0_0, N0_0, K0_0, X0_0, rfl, F0_0, B0_0⟩ := trod_fs Try.underlying29 Try.underlying22 (by kernel_rfl) t0_0_1
  obtain ⟨x0_1, rfl, b0_1⟩ := cell_int Try.underlying2 (hc0 1 _ _ rfl rfl)
  obtain ⟨x0_2, rfl, b0_2⟩ := cell_f32 Try.underlying22 (hc0 2 _ _ rfl rfl)
  refine (k_ValidComb A0_0 N0_0 K0_0 X0_0 x0_1 x0_2 W F0_0).mono fun e W' ⟨he, hb⟩ => ?_
  subst he
  exact ⟨_, rfl, law_post (by kernel_rfl) (by kernel_rfl) hW' rfl rfl rfl Try.underlying4 hb⟩

theorem proved : Rows.FnExactValidCombSaid :=
  OpenClaim.holds_of_wide 7 Try.f7 rfl rfl rfl rfl rfl rfl rfl ⟨rfl, rfl, rfl, rfl, rfl⟩ rfl rfl rfl rfl rfl (by kernel_rfl) Try.func7 (by kernel_rfl)
    (of_decide_eq_true (by kernel_rfl)) (by unfold Func.isWrapper; first | (rw [if_pos (by decide +kernel)]; kernel_rfl) | (rw [if_neg (by decide +kernel)]; exact ⟨rfl, rfl⟩))
    (fun os started H enc _ => lifted os started H enc)

#print axioms proved
end Go.Proofs.Ytdhiihmfgmempaa.fnExactValidComb
