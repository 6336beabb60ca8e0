
/-
The law FnExactPipeText holds of every input: what the program returns is what the reference returns. No condition.
-/
import Derived.Test.YtbdanadmabemdaaDoorRu
import Derived.Test.YtbdanadmabemdaaDoorLkPip
import Derived.Test.YtbdanadmabemdaaDoorRq
import Derived.Test.YtbdanadmabemdaaDoorDr
import Derived.Test.YtbdanadmabemdaaDoorTie
import Derived.Test.YtbdanadmabemdaaDoorCards
import Derived.SevenTiedAt
namespace Go.Proofs.YtbdanadmabemdaaDoor.fnExactPipeText
open Go.ChangeShapes Go.WideShapes Go.ChangeAt Go.RowKit
set_option linter.unusedVariables false

set_option maxRecDepth 100000 in
theorem lifted (os : Os) (started : os.Started) (H : Type) (enc : TypeId × Value → H) :
    ReturnsInHanded {} Tryd.checked os 5 .any (fun w args => (Rows.fnExactPipeTextSpec.pre enc Tryd.prog Tryd.f5 [] false w args ∧ laidMetH Tryd.prog laidT w) ∧ sizedMet enc Tryd.prog Tryd.f5 (OpenSpec.ofChange Rows.fnExactPipeTextSpec) false w args)
      (Rows.fnExactPipeTextSpec.post enc Tryd.prog Tryd.f5 false true false false) := by
  refine returnsInHanded_of_change_and (C := Tryd.checked) (X := fun w _ => laidMetH Tryd.prog laidT w) (fun _ _ _ hh h => h.of_heap hh) own started (by kernel_rfl) Tryd.func5
    (ChangeSpec.witness_shaped (enc := enc) (C := Tryd.checked) (os := os) (X := fun w _ => laidMetH Tryd.prog laidT w) false (World.doorLaid Tryd.prog 24 os) #[.agg #[.slice none 0 0, .slice none 0 0, .slice none 0 0, .int .i64 0, .float .f32 0, .float .f32 0, .float .f32 0, .float .f32 0, .float .f32 0, .bool false, .float .f32 0, .float .f32 0, .float .f32 0]] 8 rfl (door_shaped os _) (by kernel_rfl) (by kernel_rfl) (by kernel_rfl) (door_met os _)) ?_
  intro W base args ds gs before hval0 hW _ _ hL _
  have hval : ∀ (j : Nat) t v, Tryd.f5.params[j]? = some t → args[j]? = some v → OkW Tryd.prog W base t v := fun j t v h1 h2 => ⟨hval0 j t v h1 h2⟩
  have hW' := hW
  obtain ⟨p, q, hA0, hV, rfl, hfz, hnd⟩ := hW
  have hA : DataW.TrodAll enc Tryd.prog W 0 (fun _ => true) true Tryd.f5.params.toList args.toList ds p := hA0
  rw [Tryd.params5] at hA hval
  obtain ⟨v0, vs0, d0, ds0, p0, q0, hargs, rfl, rfl, h0, r0⟩ := trodAll_cons hA
  obtain ⟨rfl, rfl, rfl⟩ := trodAll_nil r0
  obtain rfl : args = #[v0] := by cases args; simp_all
  obtain ⟨rfl, rfl⟩ := trodVars_none hV
  obtain ⟨cs0, rfl, hn0, hc0⟩ := agg_open (P := Tryd.prog) (ts := [50, 50, 22, 2, 25, 25, 25, 25, 25, 4, 25, 25, 25]) (.inr ⟨_, Tryd.underlying52⟩) (by kernel_rfl) (n := 13) (by kernel_rfl) (hval 0 52 v0 rfl rfl)
  obtain ⟨c0_0, cs0, rfl, hn0_0⟩ := len_cons (n := 12) hn0
  obtain ⟨c0_1, cs0, rfl, hn0_1⟩ := len_cons (n := 11) hn0_0
  obtain ⟨c0_2, cs0, rfl, hn0_2⟩ := len_cons (n := 10) hn0_1
  obtain ⟨c0_3, cs0, rfl, hn0_3⟩ := len_cons (n := 9) hn0_2
  obtain ⟨c0_4, cs0, rfl, hn0_4⟩ := len_cons (n := 8) hn0_3
  obtain ⟨c0_5, cs0, rfl, hn0_5⟩ := len_cons (n := 7) hn0_4
  obtain ⟨c0_6, cs0, rfl, hn0_6⟩ := len_cons (n := 6) hn0_5
  obtain ⟨c0_7, cs0, rfl, hn0_7⟩ := len_cons (n := 5) hn0_6
  obtain ⟨c0_8, cs0, rfl, hn0_8⟩ := len_cons (n := 4) hn0_7
  obtain ⟨c0_9, cs0, rfl, hn0_9⟩ := len_cons (n := 3) hn0_8
  obtain ⟨c0_10, cs0, rfl, hn0_10⟩ := len_cons (n := 2) hn0_9
  obtain ⟨c0_11, cs0, rfl, hn0_11⟩ := len_cons (n := 1) hn0_10
  obtain ⟨c0_12, cs0, rfl, hn0_12⟩ := len_cons (n := 0) hn0_11
  obtain rfl := len_nil hn0_12
  obtain ⟨fu0, ht00⟩ := h0
  have ht0 : DataW.trod enc Tryd.prog W 0 (fun _ => true) true fu0 52 [c0_0, c0_1, c0_2, c0_3, c0_4, c0_5, c0_6, c0_7, c0_8, c0_9, c0_10, c0_11, c0_12] = some (d0, p0) := ht00
  obtain ⟨_, _, t0_0_0⟩ := trod_field' Tryd.underlying52 ht0 0 0 50 1 [c0_0] (by kernel_rfl) (by kernel_rfl) rfl
  obtain ⟨_, _, t0_1_0⟩ := trod_field' Tryd.underlying52 ht0 1 1 50 1 [c0_1] (by kernel_rfl) (by kernel_rfl) rfl
  obtain ⟨_, _, t0_2_0⟩ := trod_field' Tryd.underlying52 ht0 2 2 22 1 [c0_2] (by kernel_rfl) (by kernel_rfl) rfl
  obtain ⟨A0_0, N0_0, K0_0, X0_0, rfl, F0_0, B0_0⟩ := trod_rs (t1 := 22) (t2 := 2) Tryd.underlying50 Tryd.underlying24 (by kernel_rfl) (by kernel_rfl) (by kernel_rfl) (by kernel_rfl) (by kernel_rfl) Tryd.underlying22 Tryd.underlying25 (by kernel_rfl) Tryd.underlying2 t0_0_0
  obtain ⟨A0_1, N0_1, K0_1, X0_1, rfl, F0_1, B0_1⟩ := trod_rs (t1 := 22) (t2 := 2) Tryd.underlying50 Tryd.underlying24 (by kernel_rfl) (by kernel_rfl) (by kernel_rfl) (by kernel_rfl) (by kernel_rfl) Tryd.underlying22 Tryd.underlying25 (by kernel_rfl) Tryd.underlying2 t0_1_0
  obtain ⟨A0_2, N0_2, K0_2, X0_2, rfl, F0_2, B0_2⟩ := trod_fs Tryd.underlying22 Tryd.underlying25 (by kernel_rfl) t0_2_0
  obtain ⟨x0_3, rfl, b0_3⟩ := cell_int Tryd.underlying2 (hc0 3 _ _ rfl rfl)
  obtain ⟨x0_4, rfl, b0_4⟩ := cell_f32 Tryd.underlying25 (hc0 4 _ _ rfl rfl)
  obtain ⟨x0_5, rfl, b0_5⟩ := cell_f32 Tryd.underlying25 (hc0 5 _ _ rfl rfl)
  obtain ⟨x0_6, rfl, b0_6⟩ := cell_f32 Tryd.underlying25 (hc0 6 _ _ rfl rfl)
  obtain ⟨x0_7, rfl, b0_7⟩ := cell_f32 Tryd.underlying25 (hc0 7 _ _ rfl rfl)
  obtain ⟨x0_8, rfl, b0_8⟩ := cell_f32 Tryd.underlying25 (hc0 8 _ _ rfl rfl)
  obtain ⟨x0_9, rfl⟩ := cell_bool Tryd.underlying4 (hc0 9 _ _ rfl rfl)
  obtain ⟨x0_10, rfl, b0_10⟩ := cell_f32 Tryd.underlying25 (hc0 10 _ _ rfl rfl)
  obtain ⟨x0_11, rfl, b0_11⟩ := cell_f32 Tryd.underlying25 (hc0 11 _ _ rfl rfl)
  obtain ⟨x0_12, rfl, b0_12⟩ := cell_f32 Tryd.underlying25 (hc0 12 _ _ rfl rfl)
  refine (k_PipeText A0_0 N0_0 K0_0 X0_0 A0_1 N0_1 K0_1 X0_1 A0_2 N0_2 K0_2 X0_2 x0_3 x0_4 x0_5 x0_6 x0_7 x0_8 x0_9 x0_10 x0_11 x0_12 W (tb_of_laid hL) F0_0 F0_1 F0_2 B0_0 B0_1 B0_2 b0_4 b0_5 b0_6 b0_7 b0_8 b0_10 b0_11 b0_12).mono fun e W' ⟨he, hb⟩ => ?_
  subst he
  exact ⟨_, rfl, law_post (by kernel_rfl) (by kernel_rfl) hW' rfl rfl rfl Tryd.underlying4 hb⟩

theorem closed : joinedFacts Tryd.prog 5 Tryd.f5 Rows.fnExactPipeTextSpec Rows.fnExactPipeTextRow = true := by
  unfold joinedFacts
  repeat' (with_reducible refine Bool.and_eq_true_iff.2 ⟨?_, ?_⟩)
  all_goals first | (with_reducible exact q_enter) | (rw [q_lifts]; done) | (rw [q_lifts]; kernel_rfl) | (rw [q_make]; done) | (rw [q_make]; kernel_rfl) | kernel_rfl

theorem row_proved : Rows.FnExactPipeTextSaid :=
  OpenClaim.holds_of_wide 5 Tryd.f5 rfl rfl rfl rfl rfl rfl rfl ⟨rfl, rfl, rfl, rfl, rfl⟩ rfl rfl rfl rfl rfl (by kernel_rfl) Tryd.func5 closed
    (of_decide_eq_true (by kernel_rfl)) (by unfold Func.isWrapper; first | (rw [if_pos (by decide +kernel)]; kernel_rfl) | (rw [if_neg (by decide +kernel)]; exact ⟨rfl, rfl⟩))
    (fun os started H enc _ => lifted os started H enc)

theorem proved : Rows.FnExactPipeTextCardSaid :=
  Claim7.holds_tied_plain_at .later [] [.data, .data, .data] true (true, "7b48e43565fbcb7c49f3c81aadf58be0b5916a475f8b6ed2f70664c79c8e0e86") false
    row_proved (fun _ h => by cases h) (by kernel_rfl) (fun _ h => by cases h) fnExactPipeText_row_tie rfl ⟨rfl, rfl⟩ (by kernel_rfl) rfl
    (fun f fn hf hfn => by
      obtain rfl : f = 5 := Option.some.inj ((show Tryd.prog.funcNamed "loop.example/g01173/laws.FnExactPipeText" = some 5 by kernel_rfl).symm.trans hf) |>.symm
      obtain rfl : fn = Tryd.f5 := (Option.some.inj (Tryd.func5.symm.trans hfn)).symm
      exact ⟨by kernel_rfl, fun j t ht => by
        rw [Tryd.params5] at ht
        have hm : t ∈ [52] := by simpa using Array.mem_of_getElem? ht
        have hall : ([52].all fun u => !Tryd.prog.wantsStandIn u) = true := by kernel_rfl
        exact (show Tryd.prog.wantsStandIn t = false by simpa using List.all_eq_true.1 hall t hm)⟩)
    (by kernel_rfl)

#print axioms proved
end Go.Proofs.YtbdanadmabemdaaDoor.fnExactPipeText
