
/-
The law of samples as short integers.
-/
import Derived.Test.YtmhgcflccaflpaaTf
namespace Go.Proofs.Ytmhgcflccaflpaa
open Go Go.RowKit Fl
theorem short_range (a : Nat) : -32768 ≤ shortOf a ∧ shortOf a ≤ 32767 := by
  unfold shortOf
  split
  · omega
  · split
    · split <;> omega
    · split <;> omega
theorem same_self (a : Nat) : sameB a a = true := by unfold sameB; exact beq_self_eq_true _
theorem same_cla (q t1 t2 : Nat) : sameB (nv .f32 (clampF (nv .f32 (clampF q 1056964608) t1) 1056964608) t2) (nv .f32 (clampF q 1056964608) t1) = true := by
  unfold sameB
  rw [clampF_nv, cla_idem, can_nv, can_nv, can_nv]
  exact beq_self_eq_true _
/-- what is known of a sample and of its short integer -/
theorem short_facts {q : Nat} (hq : Wd q) :
    (isNaN .f32 q = true ∧ shortOf q = 0 ∧ flu q = q) ∨
    (isNaN .f32 q = false ∧
     ((FloatKind.f32.format.order q 3212836864 == some .gt || FloatKind.f32.format.order q 3212836864 == some .eq) = false ∨
      ((FloatKind.f32.format.order q 3212836864 == some .gt || FloatKind.f32.format.order q 3212836864 == some .eq) = true ∧ (FloatKind.f32.format.order q 1065351538 == some .lt) = false) ∨
      ((FloatKind.f32.format.order q 3212836864 == some .gt || FloatKind.f32.format.order q 3212836864 == some .eq) = true ∧ (FloatKind.f32.format.order q 1065351538 == some .lt) = true ∧
       (FloatKind.f32.format.order (fop .sub .f32 (fsh (shortOf q)) q) 933741996 == some .gt) = false ∧ (FloatKind.f32.format.order (fop .sub .f32 (fsh (shortOf q)) q) 3081225644 == some .lt) = false)) ∧
     (((FloatKind.f32.format.order q 1065353216 == some .gt || FloatKind.f32.format.order q 1065353216 == some .eq) = true ∧ (FloatKind.f32.format.order q 3212836864 == some .lt || FloatKind.f32.format.order q 3212836864 == some .eq) = false ∧ shortOf q = 32767) ∨
      ((FloatKind.f32.format.order q 1065353216 == some .gt || FloatKind.f32.format.order q 1065353216 == some .eq) = false ∧ (FloatKind.f32.format.order q 3212836864 == some .lt || FloatKind.f32.format.order q 3212836864 == some .eq) = true ∧ shortOf q = -32768) ∨
      ((FloatKind.f32.format.order q 1065353216 == some .gt || FloatKind.f32.format.order q 1065353216 == some .eq) = false ∧ (FloatKind.f32.format.order q 3212836864 == some .lt || FloatKind.f32.format.order q 3212836864 == some .eq) = false)) ∧
     (flu q = q ∨ (flu q = 0 ∧ (FloatKind.f32.format.order q 953267991 == some .lt) = true ∧ (FloatKind.f32.format.order q 3100751639 == some .gt) = true))) := by
  cases hn : isNaN .f32 q
  · right
    have ha : q < 4294967296 := by
      rcases hq with h | h
      · rw [hn] at h; cases h
      · exact h
    refine ⟨rfl, ?_, ?_, flu_cases hq hn⟩
    · cases g1 : (FloatKind.f32.format.order q 3212836864 == some .gt || FloatKind.f32.format.order q 3212836864 == some .eq)
      · exact .inl rfl
      · cases g2 : (FloatKind.f32.format.order q 1065351538 == some .lt)
        · exact .inr (.inl ⟨rfl, rfl⟩)
        · have := near ha g1 g2
          rw [show sg .f32 933741996 = 3081225644 by decide] at this
          exact .inr (.inr ⟨rfl, rfl, this⟩)
    · cases g3 : (FloatKind.f32.format.order q 1065353216 == some .gt || FloatKind.f32.format.order q 1065353216 == some .eq)
      · cases g4 : (FloatKind.f32.format.order q 3212836864 == some .lt || FloatKind.f32.format.order q 3212836864 == some .eq)
        · exact .inr (.inr ⟨rfl, rfl⟩)
        · exact .inr (.inl ⟨rfl, rfl, clamp_lo ha g4⟩)
      · refine .inl ⟨rfl, ?_, clamp_hi ha g3⟩
        cases g4 : (FloatKind.f32.format.order q 3212836864 == some .lt || FloatKind.f32.format.order q 3212836864 == some .eq)
        · rfl
        · have h1 := clamp_hi ha g3
          rw [clamp_lo ha g4] at h1
          exact absurd h1 (by decide)
  · left
    refine ⟨rfl, by unfold shortOf; rw [if_pos hn], ?_⟩
    unfold flu
    rw [order_nan_left _ (by rw [isNaN_ab]; exact hn)]
    rfl
set_option maxHeartbeats 3200000 in
theorem k_Shorts (a b : Option Addr) (n c m d : Nat) (w : World) (h : BS w a n) (h' : BS w b m) :
    Calls Try.prog 3 #[.slice a n c, .slice b m d] w (RetV (.bool true) w) := by
  cases hl : (decide ((3000 : Int) < n) || decide ((3000 : Int) < m))
  rotate_left
  · have C : Calls Try.prog 5 #[.slice a n c, .slice b m d] w (fun e w' => e = .returned (.bool true) ∧ w' = w) := hl ▸ c_a2Long w a b n c m d
    go_enter Try.func3, Try.ntmps3
    go_wp2_with fail
    refine C.mono ?_
    rintro e w' ⟨rfl, rfl⟩
    go_wp2
    go_ret
    exact ⟨rfl, by (repeat (first | (with_reducible refine Below.drewN ?_) | (with_reducible refine Below.drew ?_) | ((with_reducible refine Below.alloc ?_ ?_ _); rotate_left; (first | omega | (simp <;> omega))) | ((with_reducible refine Below.setCell ?_ ?_ _); rotate_left; (first | omega | (simp <;> omega))) | (with_reducible exact Below.refl _ _) | (with_reducible assumption)))⟩
  have C : Hid (Calls Try.prog 5 #[.slice a n c, .slice b m d] w (fun e w' => e = .returned (.bool false) ∧ w' = w)) := Lib.hid (hl ▸ c_a2Long w a b n c m d)
  clear hl
  go_enter Try.func3, Try.ntmps3
  go_wp2_with fail
  refine C.out.mono ?_
  rintro e w' ⟨rfl, rfl⟩
  go_wp2_with fail
  refine (c_A2Digit _ a n c 0 h (by omega)).mono ?_
  rintro e w' ⟨z0, z00, z01, rfl, rfl⟩
  have e1 : IntKind.i64.wrap (z0 * 256) = z0 * 256 := IntWalk.i64_in _ (by omega)
  go_wp2_with fail
  refine (c_A2Digit _ a n c 1 h (by omega)).mono ?_
  rintro e w' ⟨z1, z10, z11, rfl, rfl⟩
  have e2 : IntKind.i64.wrap (z0 * 256 + z1) = z0 * 256 + z1 := IntWalk.i64_in _ (by omega)
  have e3 : IntKind.i64.wrap (z0 * 256 + z1 - 32768) = z0 * 256 + z1 - 32768 := IntWalk.i64_in _ (by omega)
  obtain ⟨N, hN⟩ : ∃ N, N = z0 * 256 + z1 - 32768 := ⟨_, rfl⟩
  have e4 : IntKind.i16.wrap (z0 * 256 + z1 - 32768) = N := by
    rw [hN]; simp [IntKind.wrap, IntKind.bits, IntKind.signed]; omega
  have n1 : -32768 ≤ N := by omega
  have n2 : N ≤ 32767 := by omega
  clear hN
  go_wp2_with fail
  refine (c_A2Any _ b m d h').mono ?_
  rintro e w1 ⟨q, hq, rfl, hb⟩
  have HB := Lib.hid hb
  clear e1 e2 e3 e4 z00 z01 z10 z11 hb
  obtain ⟨r1, r2⟩ := fsh_range N n1 n2
  have CT : Hid (∀ W, Calls Try.prog 8 #[.float .f32 (fsh N)] W (RetI .i16 N W)) := Lib.hid (fun W => by
    have := c_ToShort (fsh N) W (.inr (fsh_nan N n1 n2).2)
    rw [short_fsh N n1 n2] at this
    exact this)
  have CF : Hid (∀ W, Calls Try.prog 9 #[.int .i16 N] W (fun e w' => e = .returned (.float .f32 (fsh N)) ∧ ∃ m, w' = W.drewN m)) := Lib.hid (fun W => c_FromShort N W n1 n2)
  have CK : Hid (∀ W, Calls Try.prog 8 #[.float .f32 q] W (RetI .i16 (shortOf q) W)) := Lib.hid (fun W => c_ToShort q W hq)
  have CQ : Hid (∀ W, Calls Try.prog 9 #[.int .i16 (shortOf q)] W (fun e w' => e = .returned (.float .f32 (fsh (shortOf q))) ∧ ∃ m, w' = W.drewN m)) := Lib.hid (fun W => c_FromShort _ W (short_range q).1 (short_range q).2)
  have FF := Lib.hid (short_facts hq)
  generalize fsh N = X at *
  go_wp2_with fail
  refine (CF.out _).mono ?_
  rintro e w2 ⟨rfl, m1, rfl⟩
  go_wp2_with fail
  refine (CT.out _).mono ?_
  rintro e w2 ⟨rfl, m2, rfl⟩
  go_wp2_with fail
  refine (CF.out _).mono ?_
  rintro e w2 ⟨rfl, m3, rfl⟩
  go_wp2_with fail
  refine (CF.out _).mono ?_
  rintro e w2 ⟨rfl, m4, rfl⟩
  go_wp2_with fail
  refine (CK.out _).mono ?_
  rintro e w2 ⟨rfl, m5, rfl⟩
  go_wp2_with fail
  refine (CQ.out _).mono ?_
  rintro e w2 ⟨rfl, m6, rfl⟩
  clear r1 r2
  have z0 : (FloatKind.f32.format.order 0 0 == some .eq) = true := by decide
  obtain ⟨c1, c2⟩ := cla_cases q
  have ci := cla_idem q
  have CC : Hid (∀ W, Calls Try.prog 11 #[.float .f32 q, .float .f32 1056964608] W (RetF .f32 (clampF q 1056964608) W)) := Lib.hid (fun W => c_ClampSample q _ W)
  have CL : Hid (∀ W, Calls Try.prog 10 #[.float .f32 q] W (fun e w' => e = .returned (.float .f32 (flu q)) ∧ ∃ m, w' = W.drewN m)) := Lib.hid (fun W => c_FlushSample q W)
  have CM : Hid (∀ W, Calls Try.prog 10 #[.float .f32 (flu q)] W (fun e w' => e = .returned (.float .f32 (flu q)) ∧ ∃ m, w' = W.drewN m)) := Lib.hid (fun W => by
    have := c_FlushSample (flu q) W
    rw [flu_idem] at this
    exact this)
  have FF := FF.out
  generalize flu q = F at *
  generalize clampF q 1056964608 = C0 at *
  have CD : Hid (∀ W t, Calls Try.prog 11 #[.float .f32 (nv .f32 C0 t), .float .f32 1056964608] W (RetF .f32 C0 W)) := Lib.hid (fun W t => by
    refine (c_ClampSample (nv .f32 C0 t) _ W).mono ?_
    rintro e w' ⟨t2, n2, rfl, rfl⟩
    rw [clampF_nv, ci, nv_nv]
    exact ⟨_, n2, rfl, rfl⟩)
  have CS : Hid (∀ W t u, Calls Try.prog 12 #[.float .f32 (nv .f32 C0 t), .float .f32 (nv .f32 C0 u)] W (RetB true W)) := Lib.hid (fun W t u => by
    have := c_SameSample (nv .f32 C0 t) (nv .f32 C0 u) W
    rw [show sameB (nv .f32 C0 t) (nv .f32 C0 u) = true by unfold sameB; rw [can_nv, can_nv]; exact beq_self_eq_true _] at this
    exact this)
  have CG : Hid (∀ W, Calls Try.prog 12 #[.float .f32 F, .float .f32 F] W (RetB true W)) := Lib.hid (fun W => by
    have := c_SameSample F F W
    rw [same_self] at this
    exact this)
  clear ci CK CQ CF CT C n1 n2 hq
  generalize shortOf q = K at *
  generalize fsh K = Y at *
  rcases FF with ⟨gn, gk, gf⟩ | ⟨gn, P1, P2, gf⟩
  rotate_left
  · have gs := order_self .f32 q gn
    have GF := Lib.hid gf
    clear gf gn
    rcases P1 with p1 | ⟨p1, p2⟩ | ⟨p1, p2, p3, p4⟩ <;> rcases P2 with ⟨s1, s2, sk⟩ | ⟨s1, s2, sk⟩ | ⟨s1, s2⟩
    all_goals
      try subst sk
      go_wp2_with fail
      refine (CL.out _).mono ?_
      rintro e w2 ⟨rfl, m7, rfl⟩
      go_wp2_with fail
      refine (CC.out _).mono ?_
      rintro e w2 ⟨t1, m8, rfl, rfl⟩
      go_wp2_with fail
      refine (CM.out _).mono ?_
      rintro e w2 ⟨rfl, m9, rfl⟩
      go_wp2_with fail
      refine (CG.out _).mono ?_
      rintro e w2 ⟨rfl, m10, rfl⟩
      go_wp2_with fail
      refine (CD.out _ _).mono ?_
      rintro e w2 ⟨t2, m11, rfl, rfl⟩
      go_wp2_with fail
      refine (CS.out _ _ _).mono ?_
      rintro e w2 ⟨rfl, m12, rfl⟩
      have hb := HB.out
      rcases GF.out with rfl | ⟨rfl, f1, f2⟩
      · go_wp2
        go_ret
        exact ⟨rfl, by (repeat (first | (with_reducible refine Below.drewN ?_) | (with_reducible refine Below.drew ?_) | ((with_reducible refine Below.alloc ?_ ?_ _); rotate_left; (first | omega | (simp <;> omega))) | ((with_reducible refine Below.setCell ?_ ?_ _); rotate_left; (first | omega | (simp <;> omega))) | (with_reducible exact Below.refl _ _) | (with_reducible assumption)))⟩
      · cases g9 : (FloatKind.f32.format.order 0 q == some .eq)
        all_goals
          go_wp2
          go_ret
          exact ⟨rfl, by (repeat (first | (with_reducible refine Below.drewN ?_) | (with_reducible refine Below.drew ?_) | ((with_reducible refine Below.alloc ?_ ?_ _); rotate_left; (first | omega | (simp <;> omega))) | ((with_reducible refine Below.setCell ?_ ?_ _); rotate_left; (first | omega | (simp <;> omega))) | (with_reducible exact Below.refl _ _) | (with_reducible assumption)))⟩
  · have gq : ∀ x, FloatKind.f32.format.order q x = none := fun x => order_nan_left x gn
    clear gn
    subst gk
    subst gf
    go_wp2_with fail
    refine (CL.out _).mono ?_
    rintro e w2 ⟨rfl, m7, rfl⟩
    go_wp2_with fail
    refine (CC.out _).mono ?_
    rintro e w2 ⟨t1, m8, rfl, rfl⟩
    go_wp2_with fail
    refine (CM.out _).mono ?_
    rintro e w2 ⟨rfl, m9, rfl⟩
    go_wp2_with fail
    refine (CG.out _).mono ?_
    rintro e w2 ⟨rfl, m10, rfl⟩
    go_wp2_with fail
    refine (CD.out _ _).mono ?_
    rintro e w2 ⟨t2, m11, rfl, rfl⟩
    go_wp2_with fail
    refine (CS.out _ _ _).mono ?_
    rintro e w2 ⟨rfl, m12, rfl⟩
    have hb := HB.out
    go_wp2
    go_ret
    exact ⟨rfl, by (repeat (first | (with_reducible refine Below.drewN ?_) | (with_reducible refine Below.drew ?_) | ((with_reducible refine Below.alloc ?_ ?_ _); rotate_left; (first | omega | (simp <;> omega))) | ((with_reducible refine Below.setCell ?_ ?_ _); rotate_left; (first | omega | (simp <;> omega))) | (with_reducible exact Below.refl _ _) | (with_reducible assumption)))⟩
theorem r_Shorts (a : Option Addr) (n c : Nat) (b : Option Addr) (m d : Nat) (w : World) (h : BS w a n) (h' : BS w b m) :
    Calls Try.prog 3 #[.slice a n c, .slice b m d] w (RetV (.bool true) w) := k_Shorts a b n c m d w h h'
end Go.Proofs.Ytmhgcflccaflpaa
