
/-
The law FnExactSameRoom holds of every input: what the program returns is what the reference returns. No condition.
-/
import Derived.Test.YtfhegjjgfaeinaaYu
import Derived.Test.YtfhegjjgfaeinaaZd
import Derived.Test.YtfhegjjgfaeinaaRq
namespace Go.Proofs.Ytfhegjjgfaeinaa.fnExactSameRoom
open Go.ChangeShapes Go.WideShapes Go.ChangeAt Go.RowKit
set_option linter.unusedVariables false

theorem own : ownKnob Try.prog.godebug = none := by kernel_rfl

set_option maxRecDepth 100000 in
theorem lifted (os : Os) (started : os.Started) (H : Type) (enc : TypeId × Value → H) :
    ReturnsInHanded {} Try.checked os 9 .any (Rows.fnExactSameRoomSpec.pre6 enc Try.prog Try.f9 Rows.fnExactSameRoomRow.domain false) (Rows.fnExactSameRoomSpec.post enc Try.prog Try.f9 false true false false) := by
  refine returnsInHanded_of_change (C := Try.checked) own started (by kernel_rfl) Try.func9
    (ChangeSpec.witness6 (enc := enc) (C := Try.checked) false ⟨#[], #[.agg #[.slice none 0 0, .int .i64 0, .slice none 0 0, .slice none 0 0, .int .i64 0, .float .f32 0, .slice none 0 0, .int .i64 0, .float .f32 0, .slice none 0 0, .int .i64 0, .slice none 0 0, .int .i64 0, .slice none 0 0, .int .i64 0, .slice none 0 0, .int .i64 0, .int .i64 0, .float .f32 0, .float .f32 0, .float .f32 0, .float .f32 0, .float .f32 0, .int .i64 0, .float .f32 0, .float .f32 0, .float .f32 0, .float .f32 0, .float .f32 0, .int .i64 0, .float .f32 0, .float .f32 0, .float .f32 0, .float .f32 0, .float .f32 0, .int .i64 0, .float .f32 0, .float .f32 0, .float .f32 0, .float .f32 0, .float .f32 0, .float .f32 0, .float .f32 0, .float .f32 0, .float .f32 0, .float .f32 0, .float .f32 0], .agg #[.slice none 0 0, .int .i64 0, .slice none 0 0, .slice none 0 0, .int .i64 0, .float .f32 0, .slice none 0 0, .int .i64 0, .float .f32 0, .slice none 0 0, .int .i64 0, .slice none 0 0, .int .i64 0, .slice none 0 0, .int .i64 0, .slice none 0 0, .int .i64 0, .int .i64 0, .float .f32 0, .float .f32 0, .float .f32 0, .float .f32 0, .float .f32 0, .int .i64 0, .float .f32 0, .float .f32 0, .float .f32 0, .float .f32 0, .float .f32 0, .int .i64 0, .float .f32 0, .float .f32 0, .float .f32 0, .float .f32 0, .float .f32 0, .int .i64 0, .float .f32 0, .float .f32 0, .float .f32 0, .float .f32 0, .float .f32 0, .float .f32 0, .float .f32 0, .float .f32 0, .float .f32 0, .float .f32 0, .float .f32 0]], []⟩ 8 (by kernel_rfl) (by kernel_rfl) (by kernel_rfl) (by kernel_rfl)) ?_
  intro W base args ds gs before hval0 hW hcnd _
  have hval : ∀ (j : Nat) t v, Try.f9.params[j]? = some t → args[j]? = some v → OkW Try.prog W base t v := fun j t v h1 h2 => ⟨hval0 j t v h1 h2⟩
  have hW' := hW
  obtain ⟨p, q, hA0, hV, rfl, hfz, hnd⟩ := hW
  have hA : DataW.TrodAll enc Try.prog W 0 (fun _ => true) true Try.f9.params.toList args.toList ds p := hA0
  rw [Try.params9] at hA hval
  obtain ⟨v0, vs0, d0, ds0, p0, q0, hargs, rfl, rfl, h0, r0⟩ := trodAll_cons hA
  obtain ⟨v1, vs1, d1, ds1, p1, q1, rfl, rfl, rfl, h1, r1⟩ := trodAll_cons r0
  obtain ⟨rfl, rfl, rfl⟩ := trodAll_nil r1
  obtain rfl : args = #[v0, v1] := by cases args; simp_all
  obtain ⟨rfl, rfl⟩ := trodVars_none hV
  obtain ⟨cs0, rfl, hn0, hc0⟩ := agg_open (P := Try.prog) (ts := [23, 2, 70, 23, 2, 24, 23, 2, 24, 23, 2, 23, 2, 23, 2, 23, 2, 2, 24, 24, 24, 24, 24, 2, 24, 24, 24, 24, 24, 2, 24, 24, 24, 24, 24, 2, 24, 24, 24, 24, 24, 24, 24, 24, 24, 24, 24]) (.inr ⟨_, Try.underlying77⟩) (by kernel_rfl) (n := 47) (by kernel_rfl) (hval 0 77 v0 rfl rfl)
  obtain ⟨c0_0, cs0, rfl, hn0_0⟩ := len_cons (n := 46) hn0
  obtain ⟨c0_1, cs0, rfl, hn0_1⟩ := len_cons (n := 45) hn0_0
  obtain ⟨c0_2, cs0, rfl, hn0_2⟩ := len_cons (n := 44) hn0_1
  obtain ⟨c0_3, cs0, rfl, hn0_3⟩ := len_cons (n := 43) hn0_2
  obtain ⟨c0_4, cs0, rfl, hn0_4⟩ := len_cons (n := 42) hn0_3
  obtain ⟨c0_5, cs0, rfl, hn0_5⟩ := len_cons (n := 41) hn0_4
  obtain ⟨c0_6, cs0, rfl, hn0_6⟩ := len_cons (n := 40) hn0_5
  obtain ⟨c0_7, cs0, rfl, hn0_7⟩ := len_cons (n := 39) hn0_6
  obtain ⟨c0_8, cs0, rfl, hn0_8⟩ := len_cons (n := 38) hn0_7
  obtain ⟨c0_9, cs0, rfl, hn0_9⟩ := len_cons (n := 37) hn0_8
  obtain ⟨c0_10, cs0, rfl, hn0_10⟩ := len_cons (n := 36) hn0_9
  obtain ⟨c0_11, cs0, rfl, hn0_11⟩ := len_cons (n := 35) hn0_10
  obtain ⟨c0_12, cs0, rfl, hn0_12⟩ := len_cons (n := 34) hn0_11
  obtain ⟨c0_13, cs0, rfl, hn0_13⟩ := len_cons (n := 33) hn0_12
  obtain ⟨c0_14, cs0, rfl, hn0_14⟩ := len_cons (n := 32) hn0_13
  obtain ⟨c0_15, cs0, rfl, hn0_15⟩ := len_cons (n := 31) hn0_14
  obtain ⟨c0_16, cs0, rfl, hn0_16⟩ := len_cons (n := 30) hn0_15
  obtain ⟨c0_17, cs0, rfl, hn0_17⟩ := len_cons (n := 29) hn0_16
  obtain ⟨c0_18, cs0, rfl, hn0_18⟩ := len_cons (n := 28) hn0_17
  obtain ⟨c0_19, cs0, rfl, hn0_19⟩ := len_cons (n := 27) hn0_18
  obtain ⟨c0_20, cs0, rfl, hn0_20⟩ := len_cons (n := 26) hn0_19
  obtain ⟨c0_21, cs0, rfl, hn0_21⟩ := len_cons (n := 25) hn0_20
  obtain ⟨c0_22, cs0, rfl, hn0_22⟩ := len_cons (n := 24) hn0_21
  obtain ⟨c0_23, cs0, rfl, hn0_23⟩ := len_cons (n := 23) hn0_22
  obtain ⟨c0_24, cs0, rfl, hn0_24⟩ := len_cons (n := 22) hn0_23
  obtain ⟨c0_25, cs0, rfl, hn0_25⟩ := len_cons (n := 21) hn0_24
  obtain ⟨c0_26, cs0, rfl, hn0_26⟩ := len_cons (n := 20) hn0_25
  obtain ⟨c0_27, cs0, rfl, hn0_27⟩ := len_cons (n := 19) hn0_26
  obtain ⟨c0_28, cs0, rfl, hn0_28⟩ := len_cons (n := 18) hn0_27
  obtain ⟨c0_29, cs0, rfl, hn0_29⟩ := len_cons (n := 17) hn0_28
  obtain ⟨c0_30, cs0, rfl, hn0_30⟩ := len_cons (n := 16) hn0_29
  obtain ⟨c0_31, cs0, rfl, hn0_31⟩ := len_cons (n := 15) hn0_30
  obtain ⟨c0_32, cs0, rfl, hn0_32⟩ := len_cons (n := 14) hn0_31
  obtain ⟨c0_33, cs0, rfl, hn0_33⟩ := len_cons (n := 13) hn0_32
  obtain ⟨c0_34, cs0, rfl, hn0_34⟩ := len_cons (n := 12) hn0_33
  obtain ⟨c0_35, cs0, rfl, hn0_35⟩ := len_cons (n := 11) hn0_34
  obtain ⟨c0_36, cs0, rfl, hn0_36⟩ := len_cons (n := 10) hn0_35
  obtain ⟨c0_37, cs0, rfl, hn0_37⟩ := len_cons (n := 9) hn0_36
  obtain ⟨c0_38, cs0, rfl, hn0_38⟩ := len_cons (n := 8) hn0_37
  obtain ⟨c0_39, cs0, rfl, hn0_39⟩ := len_cons (n := 7) hn0_38
  obtain ⟨c0_40, cs0, rfl, hn0_40⟩ := len_cons (n := 6) hn0_39
  obtain ⟨c0_41, cs0, rfl, hn0_41⟩ := len_cons (n := 5) hn0_40
  obtain ⟨c0_42, cs0, rfl, hn0_42⟩ := len_cons (n := 4) hn0_41
  obtain ⟨c0_43, cs0, rfl, hn0_43⟩ := len_cons (n := 3) hn0_42
  obtain ⟨c0_44, cs0, rfl, hn0_44⟩ := len_cons (n := 2) hn0_43
  obtain ⟨c0_45, cs0, rfl, hn0_45⟩ := len_cons (n := 1) hn0_44
  obtain ⟨c0_46, cs0, rfl, hn0_46⟩ := len_cons (n := 0) hn0_45
  obtain rfl := len_nil hn0_46
  obtain ⟨fu0, ht00⟩ := h0
  have ht0 : DataW.trod enc Try.prog W 0 (fun _ => true) true fu0 77 [c0_0, c0_1, c0_2, c0_3, c0_4, c0_5, c0_6, c0_7, c0_8, c0_9, c0_10, c0_11, c0_12, c0_13, c0_14, c0_15, c0_16, c0_17, c0_18, c0_19, c0_20, c0_21, c0_22, c0_23, c0_24, c0_25, c0_26, c0_27, c0_28, c0_29, c0_30, c0_31, c0_32, c0_33, c0_34, c0_35, c0_36, c0_37, c0_38, c0_39, c0_40, c0_41, c0_42, c0_43, c0_44, c0_45, c0_46] = some (d0, p0) := ht00
  obtain ⟨_, _, t0_0_0⟩ := trod_field' Try.underlying77 ht0 0 0 69 2 [c0_0, c0_1] (by kernel_rfl) (by kernel_rfl) rfl
  obtain ⟨_, _, t0_0_1⟩ := trod_field' Try.underlying69 t0_0_0 0 0 23 1 [c0_0] (by kernel_rfl) (by kernel_rfl) rfl
  obtain ⟨_, _, t0_2_0⟩ := trod_field' Try.underlying77 ht0 1 2 70 1 [c0_2] (by kernel_rfl) (by kernel_rfl) rfl
  obtain ⟨_, _, t0_3_0⟩ := trod_field' Try.underlying77 ht0 2 3 73 6 [c0_3, c0_4, c0_5, c0_6, c0_7, c0_8] (by kernel_rfl) (by kernel_rfl) rfl
  obtain ⟨_, _, t0_3_1⟩ := trod_elem Try.underlying73 t0_3_0 0 (by omega) 3 [c0_3, c0_4, c0_5] (by kernel_rfl) rfl
  obtain ⟨_, _, t0_3_2⟩ := trod_field' Try.underlying72 t0_3_1 0 0 69 2 [c0_3, c0_4] (by kernel_rfl) (by kernel_rfl) rfl
  obtain ⟨_, _, t0_3_3⟩ := trod_field' Try.underlying69 t0_3_2 0 0 23 1 [c0_3] (by kernel_rfl) (by kernel_rfl) rfl
  obtain ⟨_, _, t0_6_0⟩ := trod_field' Try.underlying77 ht0 2 3 73 6 [c0_3, c0_4, c0_5, c0_6, c0_7, c0_8] (by kernel_rfl) (by kernel_rfl) rfl
  obtain ⟨_, _, t0_6_1⟩ := trod_elem Try.underlying73 t0_6_0 1 (by omega) 3 [c0_6, c0_7, c0_8] (by kernel_rfl) rfl
  obtain ⟨_, _, t0_6_2⟩ := trod_field' Try.underlying72 t0_6_1 0 0 69 2 [c0_6, c0_7] (by kernel_rfl) (by kernel_rfl) rfl
  obtain ⟨_, _, t0_6_3⟩ := trod_field' Try.underlying69 t0_6_2 0 0 23 1 [c0_6] (by kernel_rfl) (by kernel_rfl) rfl
  obtain ⟨_, _, t0_9_0⟩ := trod_field' Try.underlying77 ht0 3 9 74 8 [c0_9, c0_10, c0_11, c0_12, c0_13, c0_14, c0_15, c0_16] (by kernel_rfl) (by kernel_rfl) rfl
  obtain ⟨_, _, t0_9_1⟩ := trod_elem Try.underlying74 t0_9_0 0 (by omega) 2 [c0_9, c0_10] (by kernel_rfl) rfl
  obtain ⟨_, _, t0_9_2⟩ := trod_field' Try.underlying69 t0_9_1 0 0 23 1 [c0_9] (by kernel_rfl) (by kernel_rfl) rfl
  obtain ⟨_, _, t0_11_0⟩ := trod_field' Try.underlying77 ht0 3 9 74 8 [c0_9, c0_10, c0_11, c0_12, c0_13, c0_14, c0_15, c0_16] (by kernel_rfl) (by kernel_rfl) rfl
  obtain ⟨_, _, t0_11_1⟩ := trod_elem Try.underlying74 t0_11_0 1 (by omega) 2 [c0_11, c0_12] (by kernel_rfl) rfl
  obtain ⟨_, _, t0_11_2⟩ := trod_field' Try.underlying69 t0_11_1 0 0 23 1 [c0_11] (by kernel_rfl) (by kernel_rfl) rfl
  obtain ⟨_, _, t0_13_0⟩ := trod_field' Try.underlying77 ht0 3 9 74 8 [c0_9, c0_10, c0_11, c0_12, c0_13, c0_14, c0_15, c0_16] (by kernel_rfl) (by kernel_rfl) rfl
  obtain ⟨_, _, t0_13_1⟩ := trod_elem Try.underlying74 t0_13_0 2 (by omega) 2 [c0_13, c0_14] (by kernel_rfl) rfl
  obtain ⟨_, _, t0_13_2⟩ := trod_field' Try.underlying69 t0_13_1 0 0 23 1 [c0_13] (by kernel_rfl) (by kernel_rfl) rfl
  obtain ⟨_, _, t0_15_0⟩ := trod_field' Try.underlying77 ht0 3 9 74 8 [c0_9, c0_10, c0_11, c0_12, c0_13, c0_14, c0_15, c0_16] (by kernel_rfl) (by kernel_rfl) rfl
  obtain ⟨_, _, t0_15_1⟩ := trod_elem Try.underlying74 t0_15_0 3 (by omega) 2 [c0_15, c0_16] (by kernel_rfl) rfl
  obtain ⟨_, _, t0_15_2⟩ := trod_field' Try.underlying69 t0_15_1 0 0 23 1 [c0_15] (by kernel_rfl) (by kernel_rfl) rfl
  obtain ⟨A0_0, N0_0, K0_0, X0_0, rfl, F0_0, B0_0⟩ := trod_fs Try.underlying23 Try.underlying24 (by kernel_rfl) t0_0_1
  obtain ⟨x0_1, rfl, b0_1⟩ := cell_int Try.underlying2 (hc0 1 _ _ rfl rfl)
  obtain ⟨A0_2, N0_2, K0_2, X0_2, rfl, F0_2⟩ := trod_ts (t1 := 2) (t2 := 24) Try.underlying70 Try.underlying173 (by kernel_rfl) (by kernel_rfl) (by kernel_rfl) (by kernel_rfl) (by kernel_rfl) Try.underlying2 Try.underlying24 t0_2_0
  obtain ⟨A0_3, N0_3, K0_3, X0_3, rfl, F0_3, B0_3⟩ := trod_fs Try.underlying23 Try.underlying24 (by kernel_rfl) t0_3_3
  obtain ⟨x0_4, rfl, b0_4⟩ := cell_int Try.underlying2 (hc0 4 _ _ rfl rfl)
  obtain ⟨x0_5, rfl, b0_5⟩ := cell_f32 Try.underlying24 (hc0 5 _ _ rfl rfl)
  obtain ⟨A0_6, N0_6, K0_6, X0_6, rfl, F0_6, B0_6⟩ := trod_fs Try.underlying23 Try.underlying24 (by kernel_rfl) t0_6_3
  obtain ⟨x0_7, rfl, b0_7⟩ := cell_int Try.underlying2 (hc0 7 _ _ rfl rfl)
  obtain ⟨x0_8, rfl, b0_8⟩ := cell_f32 Try.underlying24 (hc0 8 _ _ rfl rfl)
  obtain ⟨A0_9, N0_9, K0_9, X0_9, rfl, F0_9, B0_9⟩ := trod_fs Try.underlying23 Try.underlying24 (by kernel_rfl) t0_9_2
  obtain ⟨x0_10, rfl, b0_10⟩ := cell_int Try.underlying2 (hc0 10 _ _ rfl rfl)
  obtain ⟨A0_11, N0_11, K0_11, X0_11, rfl, F0_11, B0_11⟩ := trod_fs Try.underlying23 Try.underlying24 (by kernel_rfl) t0_11_2
  obtain ⟨x0_12, rfl, b0_12⟩ := cell_int Try.underlying2 (hc0 12 _ _ rfl rfl)
  obtain ⟨A0_13, N0_13, K0_13, X0_13, rfl, F0_13, B0_13⟩ := trod_fs Try.underlying23 Try.underlying24 (by kernel_rfl) t0_13_2
  obtain ⟨x0_14, rfl, b0_14⟩ := cell_int Try.underlying2 (hc0 14 _ _ rfl rfl)
  obtain ⟨A0_15, N0_15, K0_15, X0_15, rfl, F0_15, B0_15⟩ := trod_fs Try.underlying23 Try.underlying24 (by kernel_rfl) t0_15_2
  obtain ⟨x0_16, rfl, b0_16⟩ := cell_int Try.underlying2 (hc0 16 _ _ rfl rfl)
  obtain ⟨x0_17, rfl, b0_17⟩ := cell_int Try.underlying2 (hc0 17 _ _ rfl rfl)
  obtain ⟨x0_18, rfl, b0_18⟩ := cell_f32 Try.underlying24 (hc0 18 _ _ rfl rfl)
  obtain ⟨x0_19, rfl, b0_19⟩ := cell_f32 Try.underlying24 (hc0 19 _ _ rfl rfl)
  obtain ⟨x0_20, rfl, b0_20⟩ := cell_f32 Try.underlying24 (hc0 20 _ _ rfl rfl)
  obtain ⟨x0_21, rfl, b0_21⟩ := cell_f32 Try.underlying24 (hc0 21 _ _ rfl rfl)
  obtain ⟨x0_22, rfl, b0_22⟩ := cell_f32 Try.underlying24 (hc0 22 _ _ rfl rfl)
  obtain ⟨x0_23, rfl, b0_23⟩ := cell_int Try.underlying2 (hc0 23 _ _ rfl rfl)
  obtain ⟨x0_24, rfl, b0_24⟩ := cell_f32 Try.underlying24 (hc0 24 _ _ rfl rfl)
  obtain ⟨x0_25, rfl, b0_25⟩ := cell_f32 Try.underlying24 (hc0 25 _ _ rfl rfl)
  obtain ⟨x0_26, rfl, b0_26⟩ := cell_f32 Try.underlying24 (hc0 26 _ _ rfl rfl)
  obtain ⟨x0_27, rfl, b0_27⟩ := cell_f32 Try.underlying24 (hc0 27 _ _ rfl rfl)
  obtain ⟨x0_28, rfl, b0_28⟩ := cell_f32 Try.underlying24 (hc0 28 _ _ rfl rfl)
  obtain ⟨x0_29, rfl, b0_29⟩ := cell_int Try.underlying2 (hc0 29 _ _ rfl rfl)
  obtain ⟨x0_30, rfl, b0_30⟩ := cell_f32 Try.underlying24 (hc0 30 _ _ rfl rfl)
  obtain ⟨x0_31, rfl, b0_31⟩ := cell_f32 Try.underlying24 (hc0 31 _ _ rfl rfl)
  obtain ⟨x0_32, rfl, b0_32⟩ := cell_f32 Try.underlying24 (hc0 32 _ _ rfl rfl)
  obtain ⟨x0_33, rfl, b0_33⟩ := cell_f32 Try.underlying24 (hc0 33 _ _ rfl rfl)
  obtain ⟨x0_34, rfl, b0_34⟩ := cell_f32 Try.underlying24 (hc0 34 _ _ rfl rfl)
  obtain ⟨x0_35, rfl, b0_35⟩ := cell_int Try.underlying2 (hc0 35 _ _ rfl rfl)
  obtain ⟨x0_36, rfl, b0_36⟩ := cell_f32 Try.underlying24 (hc0 36 _ _ rfl rfl)
  obtain ⟨x0_37, rfl, b0_37⟩ := cell_f32 Try.underlying24 (hc0 37 _ _ rfl rfl)
  obtain ⟨x0_38, rfl, b0_38⟩ := cell_f32 Try.underlying24 (hc0 38 _ _ rfl rfl)
  obtain ⟨x0_39, rfl, b0_39⟩ := cell_f32 Try.underlying24 (hc0 39 _ _ rfl rfl)
  obtain ⟨x0_40, rfl, b0_40⟩ := cell_f32 Try.underlying24 (hc0 40 _ _ rfl rfl)
  obtain ⟨x0_41, rfl, b0_41⟩ := cell_f32 Try.underlying24 (hc0 41 _ _ rfl rfl)
  obtain ⟨x0_42, rfl, b0_42⟩ := cell_f32 Try.underlying24 (hc0 42 _ _ rfl rfl)
  obtain ⟨x0_43, rfl, b0_43⟩ := cell_f32 Try.underlying24 (hc0 43 _ _ rfl rfl)
  obtain ⟨x0_44, rfl, b0_44⟩ := cell_f32 Try.underlying24 (hc0 44 _ _ rfl rfl)
  obtain ⟨x0_45, rfl, b0_45⟩ := cell_f32 Try.underlying24 (hc0 45 _ _ rfl rfl)
  obtain ⟨x0_46, rfl, b0_46⟩ := cell_f32 Try.underlying24 (hc0 46 _ _ rfl rfl)
  obtain ⟨cs1, rfl, hn1, hc1⟩ := agg_open (P := Try.prog) (ts := [23, 2, 70, 23, 2, 24, 23, 2, 24, 23, 2, 23, 2, 23, 2, 23, 2, 2, 24, 24, 24, 24, 24, 2, 24, 24, 24, 24, 24, 2, 24, 24, 24, 24, 24, 2, 24, 24, 24, 24, 24, 24, 24, 24, 24, 24, 24]) (.inr ⟨_, Try.underlying77⟩) (by kernel_rfl) (n := 47) (by kernel_rfl) (hval 1 77 v1 rfl rfl)
  obtain ⟨c1_0, cs1, rfl, hn1_0⟩ := len_cons (n := 46) hn1
  obtain ⟨c1_1, cs1, rfl, hn1_1⟩ := len_cons (n := 45) hn1_0
  obtain ⟨c1_2, cs1, rfl, hn1_2⟩ := len_cons (n := 44) hn1_1
  obtain ⟨c1_3, cs1, rfl, hn1_3⟩ := len_cons (n := 43) hn1_2
  obtain ⟨c1_4, cs1, rfl, hn1_4⟩ := len_cons (n := 42) hn1_3
  obtain ⟨c1_5, cs1, rfl, hn1_5⟩ := len_cons (n := 41) hn1_4
  obtain ⟨c1_6, cs1, rfl, hn1_6⟩ := len_cons (n := 40) hn1_5
  obtain ⟨c1_7, cs1, rfl, hn1_7⟩ := len_cons (n := 39) hn1_6
  obtain ⟨c1_8, cs1, rfl, hn1_8⟩ := len_cons (n := 38) hn1_7
  obtain ⟨c1_9, cs1, rfl, hn1_9⟩ := len_cons (n := 37) hn1_8
  obtain ⟨c1_10, cs1, rfl, hn1_10⟩ := len_cons (n := 36) hn1_9
  obtain ⟨c1_11, cs1, rfl, hn1_11⟩ := len_cons (n := 35) hn1_10
  obtain ⟨c1_12, cs1, rfl, hn1_12⟩ := len_cons (n := 34) hn1_11
  obtain ⟨c1_13, cs1, rfl, hn1_13⟩ := len_cons (n := 33) hn1_12
  obtain ⟨c1_14, cs1, rfl, hn1_14⟩ := len_cons (n := 32) hn1_13
  obtain ⟨c1_15, cs1, rfl, hn1_15⟩ := len_cons (n := 31) hn1_14
  obtain ⟨c1_16, cs1, rfl, hn1_16⟩ := len_cons (n := 30) hn1_15
  obtain ⟨c1_17, cs1, rfl, hn1_17⟩ := len_cons (n := 29) hn1_16
  obtain ⟨c1_18, cs1, rfl, hn1_18⟩ := len_cons (n := 28) hn1_17
  obtain ⟨c1_19, cs1, rfl, hn1_19⟩ := len_cons (n := 27) hn1_18
  obtain ⟨c1_20, cs1, rfl, hn1_20⟩ := len_cons (n := 26) hn1_19
  obtain ⟨c1_21, cs1, rfl, hn1_21⟩ := len_cons (n := 25) hn1_20
  obtain ⟨c1_22, cs1, rfl, hn1_22⟩ := len_cons (n := 24) hn1_21
  obtain ⟨c1_23, cs1, rfl, hn1_23⟩ := len_cons (n := 23) hn1_22
  obtain ⟨c1_24, cs1, rfl, hn1_24⟩ := len_cons (n := 22) hn1_23
  obtain ⟨c1_25, cs1, rfl, hn1_25⟩ := len_cons (n := 21) hn1_24
  obtain ⟨c1_26, cs1, rfl, hn1_26⟩ := len_cons (n := 20) hn1_25
  obtain ⟨c1_27, cs1, rfl, hn1_27⟩ := len_cons (n := 19) hn1_26
  obtain ⟨c1_28, cs1, rfl, hn1_28⟩ := len_cons (n := 18) hn1_27
  obtain ⟨c1_29, cs1, rfl, hn1_29⟩ := len_cons (n := 17) hn1_28
  obtain ⟨c1_30, cs1, rfl, hn1_30⟩ := len_cons (n := 16) hn1_29
  obtain ⟨c1_31, cs1, rfl, hn1_31⟩ := len_cons (n := 15) hn1_30
  obtain ⟨c1_32, cs1, rfl, hn1_32⟩ := len_cons (n := 14) hn1_31
  obtain ⟨c1_33, cs1, rfl, hn1_33⟩ := len_cons (n := 13) hn1_32
  obtain ⟨c1_34, cs1, rfl, hn1_34⟩ := len_cons (n := 12) hn1_33
  obtain ⟨c1_35, cs1, rfl, hn1_35⟩ := len_cons (n := 11) hn1_34
  obtain ⟨c1_36, cs1, rfl, hn1_36⟩ := len_cons (n := 10) hn1_35
  obtain ⟨c1_37, cs1, rfl, hn1_37⟩ := len_cons (n := 9) hn1_36
  obtain ⟨c1_38, cs1, rfl, hn1_38⟩ := len_cons (n := 8) hn1_37
  obtain ⟨c1_39, cs1, rfl, hn1_39⟩ := len_cons (n := 7) hn1_38
  obtain ⟨c1_40, cs1, rfl, hn1_40⟩ := len_cons (n := 6) hn1_39
  obtain ⟨c1_41, cs1, rfl, hn1_41⟩ := len_cons (n := 5) hn1_40
  obtain ⟨c1_42, cs1, rfl, hn1_42⟩ := len_cons (n := 4) hn1_41
  obtain ⟨c1_43, cs1, rfl, hn1_43⟩ := len_cons (n := 3) hn1_42
  obtain ⟨c1_44, cs1, rfl, hn1_44⟩ := len_cons (n := 2) hn1_43
  obtain ⟨c1_45, cs1, rfl, hn1_45⟩ := len_cons (n := 1) hn1_44
  obtain ⟨c1_46, cs1, rfl, hn1_46⟩ := len_cons (n := 0) hn1_45
  obtain rfl := len_nil hn1_46
  obtain ⟨fu1, ht10⟩ := h1
  have ht1 : DataW.trod enc Try.prog W 0 (fun _ => true) true fu1 77 [c1_0, c1_1, c1_2, c1_3, c1_4, c1_5, c1_6, c1_7, c1_8, c1_9, c1_10, c1_11, c1_12, c1_13, c1_14, c1_15, c1_16, c1_17, c1_18, c1_19, c1_20, c1_21, c1_22, c1_23, c1_24, c1_25, c1_26, c1_27, c1_28, c1_29, c1_30, c1_31, c1_32, c1_33, c1_34, c1_35, c1_36, c1_37, c1_38, c1_39, c1_40, c1_41, c1_42, c1_43, c1_44, c1_45, c1_46] = some (d1, p1) := ht10
  obtain ⟨_, _, t1_0_0⟩ := trod_field' Try.underlying77 ht1 0 0 69 2 [c1_0, c1_1] (by kernel_rfl) (by kernel_rfl) rfl
  obtain ⟨_, _, t1_0_1⟩ := trod_field' Try.underlying69 t1_0_0 0 0 23 1 [c1_0] (by kernel_rfl) (by kernel_rfl) rfl
  obtain ⟨_, _, t1_2_0⟩ := trod_field' Try.underlying77 ht1 1 2 70 1 [c1_2] (by kernel_rfl) (by kernel_rfl) rfl
  obtain ⟨_, _, t1_3_0⟩ := trod_field' Try.underlying77 ht1 2 3 73 6 [c1_3, c1_4, c1_5, c1_6, c1_7, c1_8] (by kernel_rfl) (by kernel_rfl) rfl
  obtain ⟨_, _, t1_3_1⟩ := trod_elem Try.underlying73 t1_3_0 0 (by omega) 3 [c1_3, c1_4, c1_5] (by kernel_rfl) rfl
  obtain ⟨_, _, t1_3_2⟩ := trod_field' Try.underlying72 t1_3_1 0 0 69 2 [c1_3, c1_4] (by kernel_rfl) (by kernel_rfl) rfl
  obtain ⟨_, _, t1_3_3⟩ := trod_field' Try.underlying69 t1_3_2 0 0 23 1 [c1_3] (by kernel_rfl) (by kernel_rfl) rfl
  obtain ⟨_, _, t1_6_0⟩ := trod_field' Try.underlying77 ht1 2 3 73 6 [c1_3, c1_4, c1_5, c1_6, c1_7, c1_8] (by kernel_rfl) (by kernel_rfl) rfl
  obtain ⟨_, _, t1_6_1⟩ := trod_elem Try.underlying73 t1_6_0 1 (by omega) 3 [c1_6, c1_7, c1_8] (by kernel_rfl) rfl
  obtain ⟨_, _, t1_6_2⟩ := trod_field' Try.underlying72 t1_6_1 0 0 69 2 [c1_6, c1_7] (by kernel_rfl) (by kernel_rfl) rfl
  obtain ⟨_, _, t1_6_3⟩ := trod_field' Try.underlying69 t1_6_2 0 0 23 1 [c1_6] (by kernel_rfl) (by kernel_rfl) rfl
  obtain ⟨_, _, t1_9_0⟩ := trod_field' Try.underlying77 ht1 3 9 74 8 [c1_9, c1_10, c1_11, c1_12, c1_13, c1_14, c1_15, c1_16] (by kernel_rfl) (by kernel_rfl) rfl
  obtain ⟨_, _, t1_9_1⟩ := trod_elem Try.underlying74 t1_9_0 0 (by omega) 2 [c1_9, c1_10] (by kernel_rfl) rfl
  obtain ⟨_, _, t1_9_2⟩ := trod_field' Try.underlying69 t1_9_1 0 0 23 1 [c1_9] (by kernel_rfl) (by kernel_rfl) rfl
  obtain ⟨_, _, t1_11_0⟩ := trod_field' Try.underlying77 ht1 3 9 74 8 [c1_9, c1_10, c1_11, c1_12, c1_13, c1_14, c1_15, c1_16] (by kernel_rfl) (by kernel_rfl) rfl
  obtain ⟨_, _, t1_11_1⟩ := trod_elem Try.underlying74 t1_11_0 1 (by omega) 2 [c1_11, c1_12] (by kernel_rfl) rfl
  obtain ⟨_, _, t1_11_2⟩ := trod_field' Try.underlying69 t1_11_1 0 0 23 1 [c1_11] (by kernel_rfl) (by kernel_rfl) rfl
  obtain ⟨_, _, t1_13_0⟩ := trod_field' Try.underlying77 ht1 3 9 74 8 [c1_9, c1_10, c1_11, c1_12, c1_13, c1_14, c1_15, c1_16] (by kernel_rfl) (by kernel_rfl) rfl
  obtain ⟨_, _, t1_13_1⟩ := trod_elem Try.underlying74 t1_13_0 2 (by omega) 2 [c1_13, c1_14] (by kernel_rfl) rfl
  obtain ⟨_, _, t1_13_2⟩ := trod_field' Try.underlying69 t1_13_1 0 0 23 1 [c1_13] (by kernel_rfl) (by kernel_rfl) rfl
  obtain ⟨_, _, t1_15_0⟩ := trod_field' Try.underlying77 ht1 3 9 74 8 [c1_9, c1_10, c1_11, c1_12, c1_13, c1_14, c1_15, c1_16] (by kernel_rfl) (by kernel_rfl) rfl
  obtain ⟨_, _, t1_15_1⟩ := trod_elem Try.underlying74 t1_15_0 3 (by omega) 2 [c1_15, c1_16] (by kernel_rfl) rfl
  obtain ⟨_, _, t1_15_2⟩ := trod_field' Try.underlying69 t1_15_1 0 0 23 1 [c1_15] (by kernel_rfl) (by kernel_rfl) rfl
  obtain ⟨A1_0, N1_0, K1_0, X1_0, rfl, F1_0, B1_0⟩ := trod_fs Try.underlying23 Try.underlying24 (by kernel_rfl) t1_0_1
  obtain ⟨x1_1, rfl, b1_1⟩ := cell_int Try.underlying2 (hc1 1 _ _ rfl rfl)
  obtain ⟨A1_2, N1_2, K1_2, X1_2, rfl, F1_2⟩ := trod_ts (t1 := 2) (t2 := 24) Try.underlying70 Try.underlying173 (by kernel_rfl) (by kernel_rfl) (by kernel_rfl) (by kernel_rfl) (by kernel_rfl) Try.underlying2 Try.underlying24 t1_2_0
  obtain ⟨A1_3, N1_3, K1_3, X1_3, rfl, F1_3, B1_3⟩ := trod_fs Try.underlying23 Try.underlying24 (by kernel_rfl) t1_3_3
  obtain ⟨x1_4, rfl, b1_4⟩ := cell_int Try.underlying2 (hc1 4 _ _ rfl rfl)
  obtain ⟨x1_5, rfl, b1_5⟩ := cell_f32 Try.underlying24 (hc1 5 _ _ rfl rfl)
  obtain ⟨A1_6, N1_6, K1_6, X1_6, rfl, F1_6, B1_6⟩ := trod_fs Try.underlying23 Try.underlying24 (by kernel_rfl) t1_6_3
  obtain ⟨x1_7, rfl, b1_7⟩ := cell_int Try.underlying2 (hc1 7 _ _ rfl rfl)
  obtain ⟨x1_8, rfl, b1_8⟩ := cell_f32 Try.underlying24 (hc1 8 _ _ rfl rfl)
  obtain ⟨A1_9, N1_9, K1_9, X1_9, rfl, F1_9, B1_9⟩ := trod_fs Try.underlying23 Try.underlying24 (by kernel_rfl) t1_9_2
  obtain ⟨x1_10, rfl, b1_10⟩ := cell_int Try.underlying2 (hc1 10 _ _ rfl rfl)
  obtain ⟨A1_11, N1_11, K1_11, X1_11, rfl, F1_11, B1_11⟩ := trod_fs Try.underlying23 Try.underlying24 (by kernel_rfl) t1_11_2
  obtain ⟨x1_12, rfl, b1_12⟩ := cell_int Try.underlying2 (hc1 12 _ _ rfl rfl)
  obtain ⟨A1_13, N1_13, K1_13, X1_13, rfl, F1_13, B1_13⟩ := trod_fs Try.underlying23 Try.underlying24 (by kernel_rfl) t1_13_2
  obtain ⟨x1_14, rfl, b1_14⟩ := cell_int Try.underlying2 (hc1 14 _ _ rfl rfl)
  obtain ⟨A1_15, N1_15, K1_15, X1_15, rfl, F1_15, B1_15⟩ := trod_fs Try.underlying23 Try.underlying24 (by kernel_rfl) t1_15_2
  obtain ⟨x1_16, rfl, b1_16⟩ := cell_int Try.underlying2 (hc1 16 _ _ rfl rfl)
  obtain ⟨x1_17, rfl, b1_17⟩ := cell_int Try.underlying2 (hc1 17 _ _ rfl rfl)
  obtain ⟨x1_18, rfl, b1_18⟩ := cell_f32 Try.underlying24 (hc1 18 _ _ rfl rfl)
  obtain ⟨x1_19, rfl, b1_19⟩ := cell_f32 Try.underlying24 (hc1 19 _ _ rfl rfl)
  obtain ⟨x1_20, rfl, b1_20⟩ := cell_f32 Try.underlying24 (hc1 20 _ _ rfl rfl)
  obtain ⟨x1_21, rfl, b1_21⟩ := cell_f32 Try.underlying24 (hc1 21 _ _ rfl rfl)
  obtain ⟨x1_22, rfl, b1_22⟩ := cell_f32 Try.underlying24 (hc1 22 _ _ rfl rfl)
  obtain ⟨x1_23, rfl, b1_23⟩ := cell_int Try.underlying2 (hc1 23 _ _ rfl rfl)
  obtain ⟨x1_24, rfl, b1_24⟩ := cell_f32 Try.underlying24 (hc1 24 _ _ rfl rfl)
  obtain ⟨x1_25, rfl, b1_25⟩ := cell_f32 Try.underlying24 (hc1 25 _ _ rfl rfl)
  obtain ⟨x1_26, rfl, b1_26⟩ := cell_f32 Try.underlying24 (hc1 26 _ _ rfl rfl)
  obtain ⟨x1_27, rfl, b1_27⟩ := cell_f32 Try.underlying24 (hc1 27 _ _ rfl rfl)
  obtain ⟨x1_28, rfl, b1_28⟩ := cell_f32 Try.underlying24 (hc1 28 _ _ rfl rfl)
  obtain ⟨x1_29, rfl, b1_29⟩ := cell_int Try.underlying2 (hc1 29 _ _ rfl rfl)
  obtain ⟨x1_30, rfl, b1_30⟩ := cell_f32 Try.underlying24 (hc1 30 _ _ rfl rfl)
  obtain ⟨x1_31, rfl, b1_31⟩ := cell_f32 Try.underlying24 (hc1 31 _ _ rfl rfl)
  obtain ⟨x1_32, rfl, b1_32⟩ := cell_f32 Try.underlying24 (hc1 32 _ _ rfl rfl)
  obtain ⟨x1_33, rfl, b1_33⟩ := cell_f32 Try.underlying24 (hc1 33 _ _ rfl rfl)
  obtain ⟨x1_34, rfl, b1_34⟩ := cell_f32 Try.underlying24 (hc1 34 _ _ rfl rfl)
  obtain ⟨x1_35, rfl, b1_35⟩ := cell_int Try.underlying2 (hc1 35 _ _ rfl rfl)
  obtain ⟨x1_36, rfl, b1_36⟩ := cell_f32 Try.underlying24 (hc1 36 _ _ rfl rfl)
  obtain ⟨x1_37, rfl, b1_37⟩ := cell_f32 Try.underlying24 (hc1 37 _ _ rfl rfl)
  obtain ⟨x1_38, rfl, b1_38⟩ := cell_f32 Try.underlying24 (hc1 38 _ _ rfl rfl)
  obtain ⟨x1_39, rfl, b1_39⟩ := cell_f32 Try.underlying24 (hc1 39 _ _ rfl rfl)
  obtain ⟨x1_40, rfl, b1_40⟩ := cell_f32 Try.underlying24 (hc1 40 _ _ rfl rfl)
  obtain ⟨x1_41, rfl, b1_41⟩ := cell_f32 Try.underlying24 (hc1 41 _ _ rfl rfl)
  obtain ⟨x1_42, rfl, b1_42⟩ := cell_f32 Try.underlying24 (hc1 42 _ _ rfl rfl)
  obtain ⟨x1_43, rfl, b1_43⟩ := cell_f32 Try.underlying24 (hc1 43 _ _ rfl rfl)
  obtain ⟨x1_44, rfl, b1_44⟩ := cell_f32 Try.underlying24 (hc1 44 _ _ rfl rfl)
  obtain ⟨x1_45, rfl, b1_45⟩ := cell_f32 Try.underlying24 (hc1 45 _ _ rfl rfl)
  obtain ⟨x1_46, rfl, b1_46⟩ := cell_f32 Try.underlying24 (hc1 46 _ _ rfl rfl)
  refine (k_SameRoom ⟨⟨A0_0, N0_0, K0_0, X0_0, x0_1⟩, A0_2, N0_2, K0_2, X0_2, ⟨A0_3, N0_3, K0_3, X0_3, x0_4⟩, x0_5, ⟨A0_6, N0_6, K0_6, X0_6, x0_7⟩, x0_8, ⟨A0_9, N0_9, K0_9, X0_9, x0_10⟩, ⟨A0_11, N0_11, K0_11, X0_11, x0_12⟩, ⟨A0_13, N0_13, K0_13, X0_13, x0_14⟩, ⟨A0_15, N0_15, K0_15, X0_15, x0_16⟩, ⟨x0_17, x0_18, x0_19, x0_20, x0_21, x0_22⟩, ⟨x0_23, x0_24, x0_25, x0_26, x0_27, x0_28⟩, ⟨x0_29, x0_30, x0_31, x0_32, x0_33, x0_34⟩, ⟨x0_35, x0_36, x0_37, x0_38, x0_39, x0_40⟩, x0_41, x0_42, x0_43, x0_44, x0_45, x0_46⟩ ⟨⟨A1_0, N1_0, K1_0, X1_0, x1_1⟩, A1_2, N1_2, K1_2, X1_2, ⟨A1_3, N1_3, K1_3, X1_3, x1_4⟩, x1_5, ⟨A1_6, N1_6, K1_6, X1_6, x1_7⟩, x1_8, ⟨A1_9, N1_9, K1_9, X1_9, x1_10⟩, ⟨A1_11, N1_11, K1_11, X1_11, x1_12⟩, ⟨A1_13, N1_13, K1_13, X1_13, x1_14⟩, ⟨A1_15, N1_15, K1_15, X1_15, x1_16⟩, ⟨x1_17, x1_18, x1_19, x1_20, x1_21, x1_22⟩, ⟨x1_23, x1_24, x1_25, x1_26, x1_27, x1_28⟩, ⟨x1_29, x1_30, x1_31, x1_32, x1_33, x1_34⟩, ⟨x1_35, x1_36, x1_37, x1_38, x1_39, x1_40⟩, x1_41, x1_42, x1_43, x1_44, x1_45, x1_46⟩ W ⟨F0_0, F0_3, F0_6, F0_9, F0_11, F0_13, F0_15, F0_2⟩ ⟨F1_0, F1_3, F1_6, F1_9, F1_11, F1_13, F1_15, F1_2⟩).mono fun e W' ⟨he, hb⟩ => ?_
  subst he
  exact ⟨_, rfl, law_post (by kernel_rfl) (by kernel_rfl) hW' rfl rfl rfl Try.underlying4 hb⟩

theorem closed : joinedFacts Try.prog 9 Try.f9 Rows.fnExactSameRoomSpec Rows.fnExactSameRoomRow = true := by
  unfold joinedFacts
  repeat' (with_reducible refine Bool.and_eq_true_iff.2 ⟨?_, ?_⟩)
  all_goals first | (with_reducible exact q_enter) | (rw [q_lifts]; done) | (rw [q_lifts]; kernel_rfl) | (rw [q_make]; done) | (rw [q_make]; kernel_rfl) | kernel_rfl

theorem proved : Rows.FnExactSameRoomSaid :=
  OpenClaim.holds_of_wide 9 Try.f9 rfl rfl rfl rfl rfl rfl rfl ⟨rfl, rfl, rfl, rfl, rfl⟩ rfl rfl rfl rfl rfl (by kernel_rfl) Try.func9 closed
    (of_decide_eq_true (by kernel_rfl)) (by unfold Func.isWrapper; first | (rw [if_pos (by decide +kernel)]; kernel_rfl) | (rw [if_neg (by decide +kernel)]; exact ⟨rfl, rfl⟩))
    (fun os started H enc _ => lifted os started H enc)

#print axioms proved
end Go.Proofs.Ytfhegjjgfaeinaa.fnExactSameRoom
