
/-
Contracts of the reference's logarithm.
-/
import Derived.Test.YtmhgcflccaflpaaLg
namespace Go.Proofs.Ytmhgcflccaflpaa
open Go Go.RowKit Fl
def fbits : Value → Nat
  | .float _ b => b
  | _ => 0
theorem fbits_f (k : FloatKind) (b : Nat) : fbits (.float k b) = b := rfl
def RetFB (v : Nat) (b : Bool) (w : World) (e : Ending) (w' : World) : Prop := ∃ t n, e = .returned (.tuple #[.float .f32 (nv .f32 v t), .bool b]) ∧ w' = w.drewN n
theorem half_part {k : Nat} (h : k < 30) : fop .quo .f64 ((1023 - k) * B52) 4611686018427387904 = (1023 - (k + 1)) * B52 := by
  have hB := b52_val
  have hI := inf_val
  have e : (1023 - k) * B52 = (1023 - (k + 1)) * B52 + B52 := by
    rw [show 1023 - k = (1023 - (k + 1)) + 1 by omega, Nat.succ_mul]
  have h1 : 993 * B52 ≤ (1023 - (k + 1)) * B52 := Nat.mul_le_mul_right _ (by omega)
  have h2 : (1023 - (k + 1)) * B52 ≤ 1023 * B52 := Nat.mul_le_mul_right _ (by omega)
  rw [half (by omega) (by omega), e]
  omega
theorem part_fix {k : Nat} (h : k ≤ 30) : (1023 - k) * B52 = fixF (2 ^ (30 - k)) := fix_pw ⟨k, by omega⟩
theorem part_add {T : Int} {k : Nat} (h : k ≤ 30) (hT : T.natAbs ≤ 10 * A30) : fop .add .f64 (fixF T) ((1023 - k) * B52) = fixF (T + 2 ^ (30 - k)) := by
  rw [part_fix h]
  refine fix_step hT ?_
  obtain ⟨h2, h3⟩ := pow_le_30 k
  generalize (2 : Int) ^ (30 - k) = p at *
  have : 10 * A30 = 2147483648000 := rfl
  omega
theorem v_fix (S : Int) (t : Nat) : nv .f64 (fixF S) t = fixF S := nv_of t (isNaN_fix S)
/-- one step of the fraction -/
theorem frac_step {z0 : Nat} (h1 : 1023 * B52 ≤ z0) (h2 : z0 < 1024 * B52) {S0 : Int} (hS : S0.natAbs ≤ A30) {k : Nat} (hk : k < 30) :
    (∀ t, nv .f64 (zz z0 k) t = zz z0 k) ∧ (∀ t, nv .f64 (sqN (zz z0 k)) t = sqN (zz z0 k)) ∧ (∀ t, nv .f64 ((1023 - (k + 1)) * B52) t = (1023 - (k + 1)) * B52) ∧
    ((1024 * B52 ≤ sqN (zz z0 k) ∧ (FloatKind.f64.format.order (sqN (zz z0 k)) 4611686018427387904 == some .gt || FloatKind.f64.format.order (sqN (zz z0 k)) 4611686018427387904 == some .eq) = true ∧ fop .quo .f64 (sqN (zz z0 k)) 4611686018427387904 = zz z0 (k + 1) ∧ fop .add .f64 (fixF (ss z0 S0 k)) ((1023 - (k + 1)) * B52) = fixF (ss z0 S0 (k + 1))) ∨
     (sqN (zz z0 k) < 1024 * B52 ∧ (FloatKind.f64.format.order (sqN (zz z0 k)) 4611686018427387904 == some .gt || FloatKind.f64.format.order (sqN (zz z0 k)) 4611686018427387904 == some .eq) = false ∧ sqN (zz z0 k) = zz z0 (k + 1) ∧ fixF (ss z0 S0 k) = fixF (ss z0 S0 (k + 1)))) := by
  have hB := b52_val
  have hI := inf_val
  obtain ⟨b1, b2⟩ := zz_bounds h1 h2 k
  obtain ⟨b3, b4⟩ := sq_bounds b1 b2
  have hb := ss_bounds (z0 := z0) hS k (by omega)
  have p1 : (1023 - (k + 1)) * B52 ≤ 1023 * B52 := Nat.mul_le_mul_right _ (by omega)
  refine ⟨fun t => nv_of t (nan_free (by omega)), fun t => nv_of t (nan_free (by omega)), fun t => nv_of t (nan_free (by omega)), ?_⟩
  rw [two_bits]
  by_cases hc : 1024 * B52 ≤ sqN (zz z0 k)
  · left
    refine ⟨hc, ge_yes (by omega) (by omega) hc, ?_, ?_⟩
    · rw [zz, if_pos hc, ← two_bits]; exact half (by omega) (by omega)
    · rw [ss, if_pos hc]
      refine part_add (by omega) (Nat.le_trans hb ?_)
      have : k * M30 ≤ 30 * M30 := Nat.mul_le_mul_right _ (by omega)
      have h5 : A30 + 30 * M30 ≤ 10 * A30 := by decide
      exact Nat.le_trans (Nat.add_le_add_left this _) h5
  · right
    refine ⟨by omega, ge_no (by omega) (by omega) (by omega), ?_, ?_⟩
    · rw [zz, if_neg hc]
    · rw [ss, if_neg hc]
def upM (v : Value) : Nat := 2000 * B52 - fbits v
def pN (k : Nat) : Nat := (1023 - k) * B52
theorem up_lt {a b : Nat} (h : 2000 * B52 - a < 2000 * B52 - b) : upM (.float .f64 a) < upM (.float .f64 b) := by
  unfold upM
  rw [fbits_f, fbits_f]
  exact h
theorem St.down_ex {b0 b : Nat} {S : Int} (h : St b0 b S) (h0 : ex0 b0 ≤ 127) (hb : 1024 * B52 ≤ b) :
    ∃ D S2, fop .quo .f64 b 4611686018427387904 = D ∧ fop .add .f64 (fixF S) 4607182418800017408 = fixF S2 ∧ fbits (.float .f64 D) < fbits (.float .f64 b) ∧ (∀ t, nv .f64 D t = D) ∧ (∀ t, nv .f64 (fixF S2) t = fixF S2) ∧ Hid (St b0 D S2) := by
  obtain ⟨f1, f2, f3⟩ := h.down h0 hb
  have hlt : b - B52 < b := Nat.sub_lt (Nat.lt_of_lt_of_le b52_pos h.r.1) b52_pos
  obtain ⟨D, hD⟩ : ∃ D, D = b - B52 := ⟨_, rfl⟩
  rw [← hD] at f1 f3 hlt
  exact ⟨D, S + 1073741824, f1, f2, hlt, fun t => nv_of t (nan_free f3.r.2), v_fix _, f3⟩
theorem St.up_ex {b0 b : Nat} {S : Int} (h : St b0 b S) (h0 : -149 ≤ ex0 b0) (hb : b < 1023 * B52) (hlt : b < 1024 * B52) :
    ∃ D S2, fop .mul .f64 b 4611686018427387904 = D ∧ fop .sub .f64 (fixF S) 4607182418800017408 = fixF S2 ∧ upM (.float .f64 D) < upM (.float .f64 b) ∧ (∀ t, nv .f64 D t = D) ∧ (∀ t, nv .f64 (fixF S2) t = fixF S2) ∧ Hid (St b0 D S2) ∧ Hid (D < 1024 * B52) := by
  obtain ⟨f1, f2, f3⟩ := h.up h0 hb
  have hm : 2000 * B52 - (b + B52) < 2000 * B52 - b := Nat.sub_lt_sub_left (Nat.lt_of_lt_of_le hlt (Nat.mul_le_mul_right _ (by omega))) (Nat.lt_add_of_pos_right b52_pos)
  have h4 : b + B52 < 1024 * B52 := by
    rw [show 1024 * B52 = 1023 * B52 + B52 from Nat.succ_mul 1023 B52]; exact Nat.add_lt_add_right hb _
  obtain ⟨D, hD⟩ : ∃ D, D = b + B52 := ⟨_, rfl⟩
  rw [← hD] at f1 f3 hm h4
  exact ⟨D, S - 1073741824, f1, f2, up_lt hm, fun t => nv_of t (nan_free f3.r.2), v_fix _, f3, h4⟩
theorem ge2_yes {b0 b : Nat} {S : Int} (h : St b0 b S) (hge : 1024 * B52 ≤ b) : (FloatKind.f64.format.order b 4611686018427387904 == some .gt || FloatKind.f64.format.order b 4611686018427387904 == some .eq) = true :=
  ge_yes (a := b) (b := 4611686018427387904) h.r.2 (by have hB := b52_val; have hI := inf_val; omega) (by rw [two_bits]; exact hge)
theorem ge2_no {b0 b : Nat} {S : Int} (h : St b0 b S) (hge : ¬ 1024 * B52 ≤ b) : (FloatKind.f64.format.order b 4611686018427387904 == some .gt || FloatKind.f64.format.order b 4611686018427387904 == some .eq) = false :=
  ge_no (a := b) (b := 4611686018427387904) h.r.2 (by have hB := b52_val; have hI := inf_val; omega) (by rw [two_bits]; omega)
/-- the two loops end in the fraction -/
theorem St.mid {b0 b : Nat} {S : Int} (h : St b0 b S) (hl : ¬ b < 1023 * B52) (hlt : b < 1024 * B52) : b = fr0 b0 ∧ S = ex0 b0 * 2 ^ 30 ∧ (ex0 b0 * 2 ^ 30).natAbs ≤ A30 := by
  have hmid := ex0_mid (b := b) (by omega) hlt
  have hS : S = ex0 b0 * 2 ^ 30 := by rw [h.e, hmid]; omega
  refine ⟨?_, hS, by rw [← hS]; exact Nat.le_trans h.s (by decide)⟩
  have h5 : b / B52 = 1023 := by unfold ex0 at hmid; omega
  have h6 := Nat.div_add_mod b B52
  rw [h5, h.f] at h6
  unfold fr0
  rw [Nat.mul_comm] at h6
  omega
theorem pN_zero : pN 0 = 4607182418800017408 := by unfold pN; exact one_bits
/-- one round of the third loop: the values it holds -/
theorem frac_ex {z0 : Nat} (h1 : 1023 * B52 ≤ z0) (h2 : z0 < 1024 * B52) {S0 : Int} (hS : S0.natAbs ≤ A30) {k : Nat} (hk : k < 30) {Z0 F0 P0 : Nat} (hZ : Z0 = zz z0 k) (hF : F0 = fixF (ss z0 S0 k)) (hP : P0 = pN k) :
    ∃ Y P1 Z1 F1, fop .mul .f64 Z0 Z0 = Y ∧ fop .quo .f64 P0 4611686018427387904 = P1 ∧ (∀ t, nv .f64 Y t = Y) ∧ (∀ t, nv .f64 P1 t = P1) ∧ (∀ t, nv .f64 Z1 t = Z1) ∧ (∀ t, nv .f64 F1 t = F1) ∧ Hid (Z1 = zz z0 (k + 1)) ∧ Hid (F1 = fixF (ss z0 S0 (k + 1))) ∧ Hid (P1 = pN (k + 1)) ∧
    (((FloatKind.f64.format.order Y 4611686018427387904 == some .gt || FloatKind.f64.format.order Y 4611686018427387904 == some .eq) = true ∧ fop .quo .f64 Y 4611686018427387904 = Z1 ∧ fop .add .f64 F0 P1 = F1) ∨
     ((FloatKind.f64.format.order Y 4611686018427387904 == some .gt || FloatKind.f64.format.order Y 4611686018427387904 == some .eq) = false ∧ Hid (Y = Z1) ∧ Hid (F0 = F1))) := by
  subst hZ hF hP
  obtain ⟨v1, v2, v3, hcase⟩ := frac_step h1 h2 hS hk
  refine ⟨sqN (zz z0 k), (1023 - (k + 1)) * B52, zz z0 (k + 1), fixF (ss z0 S0 (k + 1)), rfl, half_part hk, v2, v3, fun t => nv_of t (nan_free (by have := (zz_bounds h1 h2 (k + 1)).2; have hB := b52_val; have hI := inf_val; omega)), v_fix _, rfl, rfl, rfl, ?_⟩
  rcases hcase with ⟨c1, c2, c3, c4⟩ | ⟨c1, c2, c3, c4⟩
  · exact Or.inl ⟨c2, c3, c4⟩
  · exact Or.inr ⟨c2, c3, c4⟩
theorem c_l07Log_no (x : Nat) (w : World) (h : areaB x = false) : Calls Try.prog 33 #[.float .f32 x] w (RetFB 0 false w) := by
  unfold areaB at h
  cases h1 : finB x <;> rw [h1] at h
  · go_enter Try.func33, Try.ntmps33
    go_wp2_with (go_at_call 51; refine (c_l01Finite _ _).mono ?_; rintro e w' ⟨rfl, n1, rfl⟩)
    go_ret2
    exact ⟨0, _, rfl, rfl⟩
  · simp only [Bool.true_and] at h
    go_enter Try.func33, Try.ntmps33
    go_wp2_with (go_at_call 51; refine (c_l01Finite _ _).mono ?_; rintro e w' ⟨rfl, n1, rfl⟩)
    go_ret2
    exact ⟨0, _, rfl, rfl⟩
set_option maxRecDepth 10000 in
set_option maxHeartbeats 2000000 in
theorem c_l07Log_ok (x : Nat) (hx : x < 4294967296) (w : World) (h : areaB x = true) : Calls Try.prog 33 #[.float .f32 x] w (RetFB (logF (up x)) true w) := by
  obtain ⟨x1, x2⟩ := area_range hx h
  obtain ⟨u1, u2⟩ := up_range x1 x2
  obtain ⟨e1, e2⟩ := ex0_bounds u1 u2
  unfold areaB at h
  rw [Bool.and_eq_true] at h
  obtain ⟨h1, h2⟩ := h
  have huv : ∀ t, nv .f64 (up x) t = up x := fun t => nv_of t (nan_free (by have hB := b52_val; have hI := inf_val; omega))
  have HS0 : Hid (St (up x) (up x) 0) := ⟨⟨(by have hB := b52_val; have hI := inf_val; omega), (by have hB := b52_val; have hI := inf_val; omega)⟩, rfl, by omega, by omega⟩
  have HL : Hid (logF (up x) = down (fixF (ss (fr0 (up x)) (ex0 (up x) * 2 ^ 30) 30))) := rfl
  have HF := Lib.hid (fr0_bounds (up x))
  generalize logF (up x) = R at *
  obtain ⟨z0, hz0⟩ : ∃ z0, z0 = fr0 (up x) := ⟨_, rfl⟩
  have HZ := Lib.hid hz0
  rw [← hz0] at HF HL
  clear hz0
  clear x1 x2 hx
  go_enter Try.func33, Try.ntmps33
  go_wp2_with (go_at_call 51; refine (c_l01Finite _ _).mono ?_; rintro e w' ⟨rfl, n1, rfl⟩)
  have u3 : up x < 1151 * B52 := u2
  generalize up x = b0 at *
  clear h1 h2 huv u1 u2
  go_loopw [4, 5] (fun z s wr => ∃ (b : Nat) (S : Int), z = .float .f64 b ∧ s = .float .f64 (fixF S) ∧ Hid (St b0 b S) ∧ ∃ q, wr = w.drewN q) (fun z _ _ => fbits z)
  case atStart => exact ⟨b0, 0, rfl, congrArg (Value.float .f64) fix_zero.symm, HS0, same1 _ _⟩
  case round =>
    obtain ⟨b, S, rfl, rfl, hs, q, rfl⟩ := hrel
    by_cases hge : 1024 * B52 ≤ b
    · obtain ⟨D, S2, f1, f2, hlt, hv2, hv3, F3⟩ := hs.out.down_ex e2 hge
      have hc := ge2_yes hs.out hge
      have HM := Lib.hid hlt
      clear hs hge hlt
      obtain ⟨G2, HG⟩ : ∃ G2, Hid (G2 = fixF S2) := ⟨_, rfl⟩
      rw [← HG.out] at f2 hv3
      go_wp2
      go_roundw
      case rel => exact ⟨D, S2, rfl, congrArg _ HG.out, F3, by first | exact same1 _ _ | exact ⟨_, by rw [World.drewN_drewN]⟩⟩
      case measure => exact HM.out
    · have hc := ge2_no hs.out hge
      have HB : Hid (b < 1024 * B52) := Nat.lt_of_not_le hge
      clear hge
      go_wp2
      clear hc
      go_loopw [4, 5] (fun z s wr => ∃ (b : Nat) (S : Int), z = .float .f64 b ∧ s = .float .f64 (fixF S) ∧ Hid (St b0 b S) ∧ Hid (b < 1024 * B52) ∧ ∃ q, wr = w.drewN q) (fun z _ _ => upM z)
      case atStart => exact ⟨b, S, rfl, rfl, hs, HB, same1 _ _⟩
      case round =>
        clear hs HB
        obtain ⟨b, S, rfl, rfl, hs, hlt, q, rfl⟩ := hrel
        by_cases hl : b < 1023 * B52
        · have hc := lt_yes (a := b) (b := 4607182418800017408) hs.out.r.2 (by have hB := b52_val; have hI := inf_val; omega) (by rw [one_bits]; exact hl)
          obtain ⟨D, S2, f1, f2, hm, hv2, hv3, F3, F4⟩ := hs.out.up_ex e1 hl hlt.out
          have HM := Lib.hid hm
          clear hs hl hlt hm
          obtain ⟨G2, HG⟩ : ∃ G2, Hid (G2 = fixF S2) := ⟨_, rfl⟩
          rw [← HG.out] at f2 hv3
          go_wp2
          go_roundw
          case rel => exact ⟨D, S2, rfl, congrArg _ HG.out, F3, F4, by first | exact same1 _ _ | exact ⟨_, by rw [World.drewN_drewN]⟩⟩
          case measure => exact HM.out
        · have hc := lt_no (a := b) (b := 4607182418800017408) hs.out.r.2 (by have hB := b52_val; have hI := inf_val; omega) (by rw [one_bits]; omega)
          obtain ⟨hz, hS, hA⟩ := hs.out.mid hl hlt.out
          rw [← HZ.out] at hz
          have HA := Lib.hid hA
          subst hz
          subst hS
          clear hs hA hl hlt
          go_wp2
          clear hc
          generalize ex0 b0 * 2 ^ 30 = S0 at *
          go_loopw [4, 5, 6, 7] (fun z s p i wr => ∃ (k : Nat) (Z0 F0 P0 : Nat), k ≤ 30 ∧ i = .int .i64 k ∧ z = .float .f64 Z0 ∧ s = .float .f64 F0 ∧ p = .float .f64 P0 ∧ Hid (Z0 = zz b k) ∧ Hid (F0 = fixF (ss b S0 k)) ∧ Hid (P0 = pN k) ∧ ∃ q, wr = w.drewN q) (fun _ _ _ i _ => 30 - (intOf i).toNat)
          case atStart => exact ⟨0, _, _, _, Nat.zero_le _, rfl, rfl, rfl, rfl, rfl, rfl, pN_zero.symm, same1 _ _⟩
          case round =>
            obtain ⟨k, Z0, F0, P0, hk, rfl, rfl, rfl, rfl, HZ0, HF0, HP0, q, rfl⟩ := hrel
            by_cases hlt4 : k < 30
            · obtain ⟨Y, P1, Z1, F1, y1, y2, v1, v2, v3, v4, HZ1, HF1, HP1, hcase⟩ := frac_ex HF.out.1 HF.out.2 HA.out hlt4 HZ0.out HF0.out HP0.out
              rcases hcase with ⟨c2, c3, c4⟩ | ⟨c2, HC3, HC4⟩
              · go_wp2
                go_roundw
                case rel => exact ⟨k + 1, Z1, F1, P1, by omega, by go_num, rfl, rfl, rfl, HZ1, HF1, HP1, by first | exact same1 _ _ | exact ⟨_, by rw [World.drewN_drewN]⟩⟩
                case measure => simp [intOf]; omega
              · clear v3 v4
                go_wp2
                go_roundw
                case rel => exact ⟨k + 1, Y, F0, P1, by omega, by go_num, rfl, rfl, rfl, HC3.out.trans HZ1.out, HC4.out.trans HF1.out, HP1, by first | exact same1 _ _ | exact ⟨_, by rw [World.drewN_drewN]⟩⟩
                case measure => simp [intOf]; omega
            · obtain rfl : k = 30 := by omega
              have ho : ovf F0 = false := by rw [HF0.out]; exact ovf_fix (Nat.le_trans (ss_bounds HA.out 30 (by omega)) (by decide))
              go_wp2
              go_ret2
              exact ⟨_, _, by rw [HL.out, ← HF0.out]; rfl, by first | rfl | rw [World.drewN_drewN]⟩
end Go.Proofs.Ytmhgcflccaflpaa
