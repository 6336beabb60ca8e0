
/-
The law FnPowers holds of every input: what the program returns is what the reference returns. No condition.
-/
import Derived.Test.YtmhgcflccaflpaaRb
import Derived.Test.YtmhgcflccaflpaaQh
import Derived.Test.YtmhgcflccaflpaaRq
namespace Go.Proofs.Ytmhgcflccaflpaa.fnPowers
open Go.ChangeShapes Go.WideShapes Go.ChangeAt Go.RowKit
set_option linter.unusedVariables false

theorem own : ownKnob Try.prog.godebug = none := by kernel_rfl

set_option maxRecDepth 100000 in
theorem lifted (os : Os) (started : os.Started) (H : Type) (enc : TypeId × Value → H) :
    ReturnsInHanded {} Try.checked os 4 .any (Rows.fnPowersSpec.pre6 enc Try.prog Try.f4 Rows.fnPowersRow.domain false) (Rows.fnPowersSpec.post enc Try.prog Try.f4 false true false false) := by
  refine returnsInHanded_of_change (C := Try.checked) own started (by kernel_rfl) Try.func4
    (ChangeSpec.witness6 (enc := enc) (C := Try.checked) false ⟨#[], #[.slice none 0 0, .slice none 0 0], []⟩ 8 (by kernel_rfl) (by kernel_rfl) (by kernel_rfl) (by kernel_rfl)) ?_
  intro W base args ds gs before hval0 hW hcnd _
  have hval : ∀ (j : Nat) t v, Try.f4.params[j]? = some t → args[j]? = some v → OkW Try.prog W base t v := fun j t v h1 h2 => ⟨hval0 j t v h1 h2⟩
  have hW' := hW
  obtain ⟨p, q, hA0, hV, rfl, hfz, hnd⟩ := hW
  have hA : DataW.TrodAll enc Try.prog W 0 (fun _ => true) true Try.f4.params.toList args.toList ds p := hA0
  rw [Try.params4] at hA hval
  obtain ⟨v0, vs0, d0, ds0, p0, q0, hargs, rfl, rfl, h0, r0⟩ := trodAll_cons hA
  obtain ⟨v1, vs1, d1, ds1, p1, q1, rfl, rfl, rfl, h1, r1⟩ := trodAll_cons r0
  obtain ⟨rfl, rfl, rfl⟩ := trodAll_nil r1
  obtain rfl : args = #[v0, v1] := by cases args; simp_all
  obtain ⟨rfl, rfl⟩ := trodVars_none hV
  obtain ⟨A0, N0, K0, rfl⟩ := val_sl Try.underlying22 (hval 0 22 v0 rfl rfl)
  obtain ⟨fu0, ht00⟩ := h0
  have ht0 : DataW.trod enc Try.prog W 0 (fun _ => true) true fu0 22 [.slice A0 N0 K0] = some (d0, p0) := ht00
  obtain ⟨_, _, _, hs0, F0⟩ := trod_bs Try.underlying22 Try.underlying5 (by kernel_rfl) ht0
  cases hs0
  obtain ⟨A1, N1, K1, rfl⟩ := val_sl Try.underlying22 (hval 1 22 v1 rfl rfl)
  obtain ⟨fu1, ht10⟩ := h1
  have ht1 : DataW.trod enc Try.prog W 0 (fun _ => true) true fu1 22 [.slice A1 N1 K1] = some (d1, p1) := ht10
  obtain ⟨_, _, _, hs1, F1⟩ := trod_bs Try.underlying22 Try.underlying5 (by kernel_rfl) ht1
  cases hs1
  refine (r_Powers A0 N0 K0 A1 N1 K1 W F0 F1).mono fun e W' ⟨he, hb⟩ => ?_
  subst he
  exact ⟨_, rfl, law_post (by kernel_rfl) (by kernel_rfl) hW' rfl rfl rfl Try.underlying4 hb⟩

theorem closed : joinedFacts Try.prog 4 Try.f4 Rows.fnPowersSpec Rows.fnPowersRow = true := by
  unfold joinedFacts
  repeat' (with_reducible refine Bool.and_eq_true_iff.2 ⟨?_, ?_⟩)
  all_goals first | (with_reducible exact q_enter) | (rw [q_lifts]; done) | (rw [q_lifts]; kernel_rfl) | (rw [q_make]; done) | (rw [q_make]; kernel_rfl) | kernel_rfl

theorem proved : Rows.FnPowersSaid :=
  OpenClaim.holds_of_wide 4 Try.f4 rfl rfl rfl rfl rfl rfl rfl ⟨rfl, rfl, rfl, rfl, rfl⟩ rfl rfl rfl rfl rfl (by kernel_rfl) Try.func4 closed
    (of_decide_eq_true (by kernel_rfl)) (by unfold Func.isWrapper; first | (rw [if_pos (by decide +kernel)]; kernel_rfl) | (rw [if_neg (by decide +kernel)]; exact ⟨rfl, rfl⟩))
    (fun os started H enc _ => lifted os started H enc)

#print axioms proved
end Go.Proofs.Ytmhgcflccaflpaa.fnPowers
