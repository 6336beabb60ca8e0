
/-
The law FnExactTurnTuning holds of every input: what the program returns is what the reference returns. No condition.
-/
import Derived.Test.YtdhiihmfgmempaaRt
import Derived.Test.YtdhiihmfgmempaaTy
import Derived.Test.YtdhiihmfgmempaaRq
namespace Go.Proofs.Ytdhiihmfgmempaa.fnExactTurnTuning
open Go.ChangeShapes Go.WideShapes Go.ChangeAt Go.RowKit
set_option linter.unusedVariables false

theorem own : ownKnob Try.prog.godebug = none := by kernel_rfl

set_option maxRecDepth 100000 in
theorem lifted (os : Os) (started : os.Started) (H : Type) (enc : TypeId × Value → H) :
    ReturnsInHanded {} Try.checked os 17 .any (Rows.fnExactTurnTuningSpec.pre6 enc Try.prog Try.f17 Rows.fnExactTurnTuningRow.domain false) (Rows.fnExactTurnTuningSpec.post enc Try.prog Try.f17 false true false false) := by
  refine returnsInHanded_of_change (C := Try.checked) own started (by kernel_rfl) Try.func17
    (ChangeSpec.witness6 (enc := enc) (C := Try.checked) false ⟨#[], #[.agg #[.float .f32 0, .float .f32 0, .slice none 0 0], .int .i64 0], []⟩ 8 (by kernel_rfl) (by kernel_rfl) (by kernel_rfl) (by kernel_rfl)) ?_
  intro W base args ds gs before hval0 hW hcnd _
  have hval : ∀ (j : Nat) t v, Try.f17.params[j]? = some t → args[j]? = some v → OkW Try.prog W base t v := fun j t v h1 h2 => ⟨hval0 j t v h1 h2⟩
  have hW' := hW
  obtain ⟨p, q, hA0, hV, rfl, hfz, hnd⟩ := hW
  have hA : DataW.TrodAll enc Try.prog W 0 (fun _ => true) true Try.f17.params.toList args.toList ds p := hA0
  rw [Try.params17] at hA hval
  obtain ⟨v0, vs0, d0, ds0, p0, q0, hargs, rfl, rfl, h0, r0⟩ := trodAll_cons hA
  obtain ⟨v1, vs1, d1, ds1, p1, q1, rfl, rfl, rfl, h1, r1⟩ := trodAll_cons r0
  obtain ⟨rfl, rfl, rfl⟩ := trodAll_nil r1
  obtain rfl : args = #[v0, v1] := by cases args; simp_all
  obtain ⟨rfl, rfl⟩ := trodVars_none hV
  obtain ⟨cs0, rfl, hn0, hc0⟩ := agg_open (P := Try.prog) (ts := [22, 22, 29]) (.inr ⟨_, Try.underlying37⟩) (by kernel_rfl) (n := 3) (by kernel_rfl) (hval 0 37 v0 rfl rfl)
  obtain ⟨c0_0, cs0, rfl, hn0_0⟩ := len_cons (n := 2) hn0
  obtain ⟨c0_1, cs0, rfl, hn0_1⟩ := len_cons (n := 1) hn0_0
  obtain ⟨c0_2, cs0, rfl, hn0_2⟩ := len_cons (n := 0) hn0_1
  obtain rfl := len_nil hn0_2
  obtain ⟨fu0, ht00⟩ := h0
  have ht0 : DataW.trod enc Try.prog W 0 (fun _ => true) true fu0 37 [c0_0, c0_1, c0_2] = some (d0, p0) := ht00
  obtain ⟨x0_0, rfl, b0_0⟩ := cell_f32 Try.underlying22 (hc0 0 _ _ rfl rfl)
  obtain ⟨x0_1, rfl, b0_1⟩ := cell_f32 Try.underlying22 (hc0 1 _ _ rfl rfl)
  obtain ⟨_, _, t0_2_0⟩ := trod_field' Try.underlying37 ht0 2 2 29 1 [c0_2] (by kernel_rfl) (by kernel_rfl) rfl
  obtain ⟨A0_2, N0_2, K0_2, X0_2, rfl, F0_2, B0_2⟩ := trod_fs Try.underlying29 Try.underlying22 (by kernel_rfl) t0_2_0
  obtain ⟨a1, rfl, w1⟩ := val_int Try.underlying2 (hval 1 2 v1 rfl rfl)
  refine (k_TurnTuning x0_0 x0_1 A0_2 N0_2 K0_2 X0_2 a1 W F0_2).mono fun e W' ⟨he, hb⟩ => ?_
  subst he
  exact ⟨_, rfl, law_post (by kernel_rfl) (by kernel_rfl) hW' rfl rfl rfl Try.underlying4 hb⟩

theorem closed : joinedFacts Try.prog 17 Try.f17 Rows.fnExactTurnTuningSpec Rows.fnExactTurnTuningRow = true := by
  unfold joinedFacts
  repeat' (with_reducible refine Bool.and_eq_true_iff.2 ⟨?_, ?_⟩)
  all_goals first | (with_reducible exact q_enter) | (rw [q_lifts]; done) | (rw [q_lifts]; kernel_rfl) | (rw [q_make]; done) | (rw [q_make]; kernel_rfl) | kernel_rfl

theorem proved : Rows.FnExactTurnTuningSaid :=
  OpenClaim.holds_of_wide 17 Try.f17 rfl rfl rfl rfl rfl rfl rfl ⟨rfl, rfl, rfl, rfl, rfl⟩ rfl rfl rfl rfl rfl (by kernel_rfl) Try.func17 closed
    (of_decide_eq_true (by kernel_rfl)) (by unfold Func.isWrapper; first | (rw [if_pos (by decide +kernel)]; kernel_rfl) | (rw [if_neg (by decide +kernel)]; exact ⟨rfl, rfl⟩))
    (fun os started H enc _ => lifted os started H enc)

#print axioms proved
end Go.Proofs.Ytdhiihmfgmempaa.fnExactTurnTuning
