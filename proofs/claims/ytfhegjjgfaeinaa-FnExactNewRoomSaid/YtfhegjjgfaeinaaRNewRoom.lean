
/-
The law FnExactNewRoom holds of every input: what the program returns is what the reference returns. No condition.
-/
import Derived.Test.YtfhegjjgfaeinaaRk
import Derived.Test.YtfhegjjgfaeinaaOd
import Derived.Test.YtfhegjjgfaeinaaRq
namespace Go.Proofs.Ytfhegjjgfaeinaa.fnExactNewRoom
open Go.ChangeShapes Go.WideShapes Go.ChangeAt Go.RowKit
set_option linter.unusedVariables false

theorem own : ownKnob Try.prog.godebug = none := by kernel_rfl

set_option maxRecDepth 100000 in
theorem lifted (os : Os) (started : os.Started) (H : Type) (enc : TypeId × Value → H) :
    ReturnsInHanded {} Try.checked os 4 .any (Rows.fnExactNewRoomSpec.pre6 enc Try.prog Try.f4 Rows.fnExactNewRoomRow.domain false) (Rows.fnExactNewRoomSpec.post enc Try.prog Try.f4 false true false false) := by
  refine returnsInHanded_of_change (C := Try.checked) own started (by kernel_rfl) Try.func4
    (ChangeSpec.witness6 (enc := enc) (C := Try.checked) false ⟨#[], #[.agg #[.int .i64 0, .int .i64 0, .int .i64 0, .int .i64 0], .float .f32 0, .float .f32 0, .float .f32 0], []⟩ 8 (by kernel_rfl) (by kernel_rfl) (by kernel_rfl) (by kernel_rfl)) ?_
  intro W base args ds gs before hval0 hW hcnd _
  have hval : ∀ (j : Nat) t v, Try.f4.params[j]? = some t → args[j]? = some v → OkW Try.prog W base t v := fun j t v h1 h2 => ⟨hval0 j t v h1 h2⟩
  have hW' := hW
  obtain ⟨p, q, hA0, hV, rfl, hfz, hnd⟩ := hW
  have hA : DataW.TrodAll enc Try.prog W 0 (fun _ => true) true Try.f4.params.toList args.toList ds p := hA0
  rw [Try.params4] at hA hval
  obtain ⟨v0, vs0, d0, ds0, p0, q0, hargs, rfl, rfl, h0, r0⟩ := trodAll_cons hA
  obtain ⟨v1, vs1, d1, ds1, p1, q1, rfl, rfl, rfl, h1, r1⟩ := trodAll_cons r0
  obtain ⟨v2, vs2, d2, ds2, p2, q2, rfl, rfl, rfl, h2, r2⟩ := trodAll_cons r1
  obtain ⟨v3, vs3, d3, ds3, p3, q3, rfl, rfl, rfl, h3, r3⟩ := trodAll_cons r2
  obtain ⟨rfl, rfl, rfl⟩ := trodAll_nil r3
  obtain rfl : args = #[v0, v1, v2, v3] := by cases args; simp_all
  obtain ⟨rfl, rfl⟩ := trodVars_none hV
  obtain ⟨cs0, rfl, hn0, hc0⟩ := agg_open (P := Try.prog) (ts := [2, 2, 2, 2]) (.inl ⟨_, _, Try.underlying40⟩) (by kernel_rfl) (n := 4) (by kernel_rfl) (hval 0 40 v0 rfl rfl)
  obtain ⟨c0_0, cs0, rfl, hn0_0⟩ := len_cons (n := 3) hn0
  obtain ⟨c0_1, cs0, rfl, hn0_1⟩ := len_cons (n := 2) hn0_0
  obtain ⟨c0_2, cs0, rfl, hn0_2⟩ := len_cons (n := 1) hn0_1
  obtain ⟨c0_3, cs0, rfl, hn0_3⟩ := len_cons (n := 0) hn0_2
  obtain rfl := len_nil hn0_3
  obtain ⟨x0_0, rfl, b0_0⟩ := cell_int Try.underlying2 (hc0 0 _ _ rfl rfl)
  obtain ⟨x0_1, rfl, b0_1⟩ := cell_int Try.underlying2 (hc0 1 _ _ rfl rfl)
  obtain ⟨x0_2, rfl, b0_2⟩ := cell_int Try.underlying2 (hc0 2 _ _ rfl rfl)
  obtain ⟨x0_3, rfl, b0_3⟩ := cell_int Try.underlying2 (hc0 3 _ _ rfl rfl)
  obtain ⟨a1, rfl, w1⟩ := val_f32 Try.underlying24 (hval 1 24 v1 rfl rfl)
  obtain ⟨a2, rfl, w2⟩ := val_f32 Try.underlying24 (hval 2 24 v2 rfl rfl)
  obtain ⟨a3, rfl, w3⟩ := val_f32 Try.underlying24 (hval 3 24 v3 rfl rfl)
  refine (r_NewRoom x0_0 x0_1 x0_2 x0_3 a1 w1 a2 a3 W).mono fun e W' ⟨he, hb⟩ => ?_
  subst he
  exact ⟨_, rfl, law_post (by kernel_rfl) (by kernel_rfl) hW' rfl rfl rfl Try.underlying4 hb⟩

theorem closed : joinedFacts Try.prog 4 Try.f4 Rows.fnExactNewRoomSpec Rows.fnExactNewRoomRow = true := by
  unfold joinedFacts
  repeat' (with_reducible refine Bool.and_eq_true_iff.2 ⟨?_, ?_⟩)
  all_goals first | (with_reducible exact q_enter) | (rw [q_lifts]; done) | (rw [q_lifts]; kernel_rfl) | (rw [q_make]; done) | (rw [q_make]; kernel_rfl) | kernel_rfl

theorem proved : Rows.FnExactNewRoomSaid :=
  OpenClaim.holds_of_wide 4 Try.f4 rfl rfl rfl rfl rfl rfl rfl ⟨rfl, rfl, rfl, rfl, rfl⟩ rfl rfl rfl rfl rfl (by kernel_rfl) Try.func4 closed
    (of_decide_eq_true (by kernel_rfl)) (by unfold Func.isWrapper; first | (rw [if_pos (by decide +kernel)]; kernel_rfl) | (rw [if_neg (by decide +kernel)]; exact ⟨rfl, rfl⟩))
    (fun os started H enc _ => lifted os started H enc)

#print axioms proved
end Go.Proofs.Ytfhegjjgfaeinaa.fnExactNewRoom

