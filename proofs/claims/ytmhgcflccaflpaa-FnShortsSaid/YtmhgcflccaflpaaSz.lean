
/-
Contracts of any sample, of digits, of samples as short integers.
-/
import Derived.Test.YtmhgcflccaflpaaSy
import Derived.Test.YtmhgcflccaflpaaSi
import Derived.Test.YtmhgcflccaflpaaCc
import Derived.Test.YtmhgcflccaflpaaSm
namespace Go.Proofs.Ytmhgcflccaflpaa
open Go Go.RowKit Fl
/-- a word of a sample -/
def Wd (b : Nat) : Prop := isNaN .f32 b = true ∨ b < 4294967296
theorem write_lt (d : Ieee.Datum) : Ieee.single.write d < 4294967296 := by
  have e1 : Ieee.single.infRung = 2139095040 := by decide
  have e2 : Ieee.single.signWeight = 2147483648 := by decide
  have e3 : Ieee.single.binade = 8388608 := by decide
  cases d with
  | number s m e =>
    show Ieee.single.nearest s m e < _
    rw [nearest_rung]
    unfold Ieee.Format.word
    split <;> omega
  | infinity s => cases s <;> decide
  | nan s t =>
    show Ieee.single.word s (Ieee.single.infRung + t % Ieee.single.binade) < _
    have := Nat.mod_lt t (show 0 < Ieee.single.binade by decide)
    unfold Ieee.Format.word
    split <;> omega
theorem map_lt {o : Option Ieee.Datum} : (o.map Ieee.single.write).getD (qnan .f32) < 4294967296 := by
  cases o with
  | none => decide
  | some d => exact write_lt d
theorem fop_lt (op : BinOp) (x y : Nat) : fop op .f32 x y < 4294967296 := by
  unfold fop
  split
  · exact map_lt
  · exact map_lt
  · exact map_lt
  · exact map_lt
  · decide
theorem down_lt (b : Nat) : down b < 4294967296 := by
  unfold down
  split
  · decide
  · exact write_lt _
theorem Wd.nv {b : Nat} (t : Nat) (h : b < 4294967296) : Wd (nv .f32 b t) := by
  cases hn : isNaN .f32 b
  · rw [nv_of t hn]; exact .inr h
  · exact .inl (by rw [isNaN_nv]; exact hn)
def AnyR (w0 : World) (e : Ending) (w' : World) : Prop := ∃ b, Wd b ∧ e = .returned (.float .f32 b) ∧ Below w0.heap.size w0 w'
theorem AnyR.mk {w0 w' : World} {b : Nat} (h : Wd b) (hb : Below w0.heap.size w0 w') : AnyR w0 (.returned (.float .f32 b)) w' := ⟨b, h, rfl, hb⟩
theorem c_l01Plain (w0 w : World) (g : Nat) (a : Option Addr) (n c k : Nat) (h : BS w0 a n) (S : Src w0 w g a n c k) (hk : k ≤ 900) :
    Calls Try.prog 39 #[.pointer (some ⟨g, 0, none⟩)] w (AnyR w0) := by
  go_enter Try.func39, Try.ntmps39
  go_wp2_with fail
  refine (c_pick w0 w g a n c k 257 (by omega) h S hk).mono ?_
  rintro e w1 ⟨z, k1, z0, z1, rfl, hk1, S1⟩
  have e1 : IntKind.i64.wrap (z - 128) = z - 128 := IntWalk.i64_in _ (by omega)
  have hb := S1.below
  go_wp2
  go_ret
  exact AnyR.mk (Wd.nv _ (fop_lt _ _ _)) (by (repeat (first | (with_reducible refine Below.drewN ?_) | (with_reducible refine Below.drew ?_) | ((with_reducible refine Below.alloc ?_ ?_ _); rotate_left; (first | omega | (simp <;> omega))) | ((with_reducible refine Below.setCell ?_ ?_ _); rotate_left; (first | omega | (simp <;> omega))) | (with_reducible exact Below.refl _ _) | (with_reducible assumption))))
theorem u32_in (n : Int) (h1 : 0 ≤ n) (h2 : n < 4294967296) : IntKind.u32.wrap n = n := by rw [IntKind.wrap_u32']; omega
theorem c_NaN (w : World) : Calls Try.prog 36 #[] w (fun e w' => e = .returned (.float .f64 9221120237041090561) ∧ w' = w) := by
  have f1 : ∀ W, (callFunc 54 #[.int .u64 9221120237041090561]).run Try.prog W = .ok (.value (.float .f64 9221120237041090561)) W := fun W => x_f64frombits 9221120237041090561 W
  go_enter Try.func36, Try.ntmps36
  go_wp2
  go_ret
  exact ⟨rfl, rfl⟩
theorem c_Inf (w : World) : Calls Try.prog 37 #[.int .i64 1] w (fun e w' => e = .returned (.float .f64 9218868437227405312) ∧ w' = w) := by
  have f1 : ∀ W, (callFunc 54 #[.int .u64 9218868437227405312]).run Try.prog W = .ok (.value (.float .f64 9218868437227405312)) W := fun W => x_f64frombits 9218868437227405312 W
  go_enter Try.func37, Try.ntmps37
  go_wp2
  go_ret
  exact ⟨rfl, rfl⟩
theorem c_Inf' (w : World) : Calls Try.prog 37 #[.int .i64 (-1)] w (fun e w' => e = .returned (.float .f64 18442240474082181120) ∧ w' = w) := by
  have f1 : ∀ W, (callFunc 54 #[.int .u64 18442240474082181120]).run Try.prog W = .ok (.value (.float .f64 18442240474082181120)) W := fun W => x_f64frombits 18442240474082181120 W
  go_enter Try.func37, Try.ntmps37
  go_wp2
  go_ret
  exact ⟨rfl, rfl⟩
set_option maxHeartbeats 1600000 in
theorem c_l01Any (w0 w : World) (g : Nat) (a : Option Addr) (n c k : Nat) (h : BS w0 a n) (S : Src w0 w g a n c k) (hk : k ≤ 800) :
    Calls Try.prog 21 #[.pointer (some ⟨g, 0, none⟩)] w (AnyR w0) := by
  have o1 : ovf 9221120237041090561 = false := by decide +kernel
  have o2 : ovf 9218868437227405312 = false := by decide +kernel
  have o3 : ovf 18442240474082181120 = false := by decide +kernel
  have f1 : ∀ W, (callFunc 38 #[.int .u32 2147483648]).run Try.prog W = .ok (.value (.float .f32 2147483648)) W := fun W => x_f32frombits 2147483648 W
  go_enter Try.func21, Try.ntmps21
  go_wp2_with fail
  refine (c_pick w0 w g a n c k 14 (by omega) h S (by omega)).mono ?_
  rintro e w1 ⟨z, k1, z0, z1, rfl, hk1, S1⟩
  have hb := S1.below
  have hz : z = 0 ∨ z = 1 ∨ z = 2 ∨ z = 3 ∨ z = 4 ∨ z = 5 ∨ z = 6 ∨ z = 7 ∨ z = 8 ∨ (¬ z = 0 ∧ ¬ z = 1 ∧ ¬ z = 2 ∧ ¬ z = 3 ∧ ¬ z = 4 ∧ ¬ z = 5 ∧ ¬ z = 6 ∧ ¬ z = 7 ∧ ¬ z = 8) := by omega
  clear z1
  rcases hz with rfl | rfl | rfl | rfl | rfl | rfl | rfl | rfl | rfl | ⟨n0, n1, n2, n3, n4, n5, n6, n7, n8⟩
  · go_wp2_with fail
    refine (c_NaN _).mono ?_
    rintro e w2 ⟨rfl, rfl⟩
    go_wp2
    go_ret
    exact AnyR.mk (Wd.nv _ (down_lt _)) (by (repeat (first | (with_reducible refine Below.drewN ?_) | (with_reducible refine Below.drew ?_) | ((with_reducible refine Below.alloc ?_ ?_ _); rotate_left; (first | omega | (simp <;> omega))) | ((with_reducible refine Below.setCell ?_ ?_ _); rotate_left; (first | omega | (simp <;> omega))) | (with_reducible exact Below.refl _ _) | (with_reducible assumption))))
  · go_wp2_with fail
    refine (c_Inf _).mono ?_
    rintro e w2 ⟨rfl, rfl⟩
    go_wp2
    go_ret
    exact AnyR.mk (Wd.nv _ (down_lt _)) (by (repeat (first | (with_reducible refine Below.drewN ?_) | (with_reducible refine Below.drew ?_) | ((with_reducible refine Below.alloc ?_ ?_ _); rotate_left; (first | omega | (simp <;> omega))) | ((with_reducible refine Below.setCell ?_ ?_ _); rotate_left; (first | omega | (simp <;> omega))) | (with_reducible exact Below.refl _ _) | (with_reducible assumption))))
  · go_wp2_with fail
    refine (c_Inf' _).mono ?_
    rintro e w2 ⟨rfl, rfl⟩
    go_wp2
    go_ret
    exact AnyR.mk (Wd.nv _ (down_lt _)) (by (repeat (first | (with_reducible refine Below.drewN ?_) | (with_reducible refine Below.drew ?_) | ((with_reducible refine Below.alloc ?_ ?_ _); rotate_left; (first | omega | (simp <;> omega))) | ((with_reducible refine Below.setCell ?_ ?_ _); rotate_left; (first | omega | (simp <;> omega))) | (with_reducible exact Below.refl _ _) | (with_reducible assumption))))
  · go_wp2
    go_ret
    exact AnyR.mk (.inr (by decide)) (by (repeat (first | (with_reducible refine Below.drewN ?_) | (with_reducible refine Below.drew ?_) | ((with_reducible refine Below.alloc ?_ ?_ _); rotate_left; (first | omega | (simp <;> omega))) | ((with_reducible refine Below.setCell ?_ ?_ _); rotate_left; (first | omega | (simp <;> omega))) | (with_reducible exact Below.refl _ _) | (with_reducible assumption))))
  · go_wp2_with fail
    refine (c_pick w0 w1 g a n c k1 16777220 (by omega) h S1 (by omega)).mono ?_
    rintro e w2 ⟨y, k2, y0, y1, rfl, hk2, S2⟩
    obtain ⟨m, rfl⟩ : ∃ m : Nat, y = m := ⟨y.toNat, by omega⟩
    have e1 := u32_in (m : Int) (by omega) (by omega)
    have hb2 := S2.below
    go_wp2
    go_ret
    exact AnyR.mk (.inr (by first | assumption | omega)) (by (repeat (first | (with_reducible refine Below.drewN ?_) | (with_reducible refine Below.drew ?_) | ((with_reducible refine Below.alloc ?_ ?_ _); rotate_left; (first | omega | (simp <;> omega))) | ((with_reducible refine Below.setCell ?_ ?_ _); rotate_left; (first | omega | (simp <;> omega))) | (with_reducible exact Below.refl _ _) | (with_reducible assumption))))
  · go_wp2_with fail
    refine (c_pick w0 w1 g a n c k1 8388612 (by omega) h S1 (by omega)).mono ?_
    rintro e w2 ⟨y, k2, y0, y1, rfl, hk2, S2⟩
    obtain ⟨m, rfl⟩ : ∃ m : Nat, y = m := ⟨y.toNat, by omega⟩
    have e1 := u32_in (m : Int) (by omega) (by omega)
    obtain ⟨q, hq⟩ : ∃ q : Nat, q = 2147483648 + m := ⟨_, rfl⟩
    have e2 : IntKind.u32.wrap (2147483648 + (m : Int)) = (q : Int) := by rw [u32_in _ (by omega) (by omega)]; omega
    have hq2 : q < 4294967296 := by omega
    clear hq
    have hb2 := S2.below
    go_wp2
    go_ret
    exact AnyR.mk (.inr (by first | assumption | omega)) (by (repeat (first | (with_reducible refine Below.drewN ?_) | (with_reducible refine Below.drew ?_) | ((with_reducible refine Below.alloc ?_ ?_ _); rotate_left; (first | omega | (simp <;> omega))) | ((with_reducible refine Below.setCell ?_ ?_ _); rotate_left; (first | omega | (simp <;> omega))) | (with_reducible exact Below.refl _ _) | (with_reducible assumption))))
  · go_wp2_with fail
    refine (c_pick w0 w1 g a n c k1 1073741824 (by omega) h S1 (by omega)).mono ?_
    rintro e w2 ⟨y, k2, y0, y1, rfl, hk2, S2⟩
    obtain ⟨m, rfl⟩ : ∃ m : Nat, y = m := ⟨y.toNat, by omega⟩
    have e1 := u32_in (m : Int) (by omega) (by omega)
    have e2 := u32_in ((m : Int) * 4) (by omega) (by omega)
    go_wp2_with fail
    refine (c_pick w0 w2 g a n c k2 4 (by omega) h S2 (by omega)).mono ?_
    rintro e w3 ⟨y', k3, y0', y1', rfl, hk3, S3⟩
    obtain ⟨m', rfl⟩ : ∃ m : Nat, y' = m := ⟨y'.toNat, by omega⟩
    have e3 := u32_in (m' : Int) (by omega) (by omega)
    obtain ⟨q, hq⟩ : ∃ q : Nat, q = m * 4 + m' := ⟨_, rfl⟩
    have e4 : IntKind.u32.wrap ((m : Int) * 4 + (m' : Int)) = (q : Int) := by rw [u32_in _ (by omega) (by omega)]; omega
    have hq2 : q < 4294967296 := by omega
    clear hq
    have hb3 := S3.below
    go_wp2
    go_ret
    exact AnyR.mk (.inr (by first | assumption | omega)) (by (repeat (first | (with_reducible refine Below.drewN ?_) | (with_reducible refine Below.drew ?_) | ((with_reducible refine Below.alloc ?_ ?_ _); rotate_left; (first | omega | (simp <;> omega))) | ((with_reducible refine Below.setCell ?_ ?_ _); rotate_left; (first | omega | (simp <;> omega))) | (with_reducible exact Below.refl _ _) | (with_reducible assumption))))
  · go_wp2_with fail
    refine (c_pick w0 w1 g a n c k1 2000000 (by omega) h S1 (by omega)).mono ?_
    rintro e w2 ⟨y, k2, y0, y1, rfl, hk2, S2⟩
    have e1 : IntKind.i64.wrap (y - 1000000) = y - 1000000 := IntWalk.i64_in _ (by omega)
    have hb2 := S2.below
    go_wp2
    go_ret
    exact AnyR.mk (Wd.nv _ (fop_lt _ _ _)) (by (repeat (first | (with_reducible refine Below.drewN ?_) | (with_reducible refine Below.drew ?_) | ((with_reducible refine Below.alloc ?_ ?_ _); rotate_left; (first | omega | (simp <;> omega))) | ((with_reducible refine Below.setCell ?_ ?_ _); rotate_left; (first | omega | (simp <;> omega))) | (with_reducible exact Below.refl _ _) | (with_reducible assumption))))
  · go_wp2_with fail
    refine (c_pick w0 w1 g a n c k1 65538 (by omega) h S1 (by omega)).mono ?_
    rintro e w2 ⟨y, k2, y0, y1, rfl, hk2, S2⟩
    have e1 : IntKind.i64.wrap (y - 32769) = y - 32769 := IntWalk.i64_in _ (by omega)
    have hb2 := S2.below
    go_wp2
    go_ret
    exact AnyR.mk (Wd.nv _ (fop_lt _ _ _)) (by (repeat (first | (with_reducible refine Below.drewN ?_) | (with_reducible refine Below.drew ?_) | ((with_reducible refine Below.alloc ?_ ?_ _); rotate_left; (first | omega | (simp <;> omega))) | ((with_reducible refine Below.setCell ?_ ?_ _); rotate_left; (first | omega | (simp <;> omega))) | (with_reducible exact Below.refl _ _) | (with_reducible assumption))))
  · go_wp2_with fail
    refine (c_l01Plain w0 w1 g a n c k1 h S1 (by omega)).mono ?_
    rintro e w2 ⟨b, hb1, rfl, hb2⟩
    go_wp2
    go_ret
    exact AnyR.mk hb1 hb2
theorem c_A2Any (w : World) (a : Option Addr) (n c : Nat) (h : BS w a n) : Calls Try.prog 7 #[.slice a n c] w (AnyR w) := by
  go_enter Try.func7, Try.ntmps7
  go_wp2_with fail
  refine (c_l00From w a n c).mono ?_
  rintro e w1 ⟨g, rfl, S⟩
  go_wp2_with fail
  refine (c_l01Any w w1 g a n c 0 h S (by omega)).mono ?_
  rintro e w2 ⟨b, hb1, rfl, hb2⟩
  go_wp2
  go_ret
  exact AnyR.mk hb1 hb2
theorem c_A2Digit (w : World) (a : Option Addr) (n c : Nat) (at_ : Nat) (h : BS w a n) (hat : at_ ≤ 1000) : Calls Try.prog 6 #[.slice a n c, .int .i64 (at_ : Int), .int .i64 256] w (fun e w' => ∃ z : Int, 0 ≤ z ∧ z ≤ 255 ∧ e = .returned (.int .i64 z) ∧ w' = w) := by
  have hbig := h.big
  by_cases hlt : at_ < n
  · obtain ⟨b, o, rfl, hbl, hc⟩ := h.at_ (by omega)
    obtain ⟨z, hz, hcell⟩ := hc at_ hlt
    have hno : ¬ n ≤ at_ := by omega
    have w1 : IntKind.i64.wrap (z : Int) = (z : Int) := IntWalk.i64_in _ (by omega)
    have w2 : ((z : Int) % 256) = (z : Int) := by omega
    clear hc h
    go_enter Try.func6, Try.ntmps6
    go_wp2
    go_ret
    exact ⟨(z : Int), by omega, by omega, by first | rfl | (simp; omega), rfl⟩
  · have hge : n ≤ at_ := by omega
    go_enter Try.func6, Try.ntmps6
    go_wp2
    go_ret
    exact ⟨0, by omega, by omega, rfl, rfl⟩
theorem c_a2Long (w : World) (a b : Option Addr) (n c m d : Nat) : Calls Try.prog 5 #[.slice a n c, .slice b m d] w (fun e w' => e = .returned (.bool (decide ((3000 : Int) < n) || decide ((3000 : Int) < m))) ∧ w' = w) := by
  by_cases h1 : (3000 : Int) < n
  · rw [decide_eq_true h1]
    go_enter Try.func5, Try.ntmps5
    go_wp2
    go_ret
    exact ⟨rfl, rfl⟩
  · rw [decide_eq_false h1, Bool.false_or]
    go_enter Try.func5, Try.ntmps5
    go_wp2
    go_ret
    exact ⟨rfl, rfl⟩
theorem nan_keep {s : Bool} {t : Nat} (h : t < 4503599627370496) : isNaN .f64 (FloatKind.f64.encode (.nan s (FloatKind.f64.format.quiet t))) = true := by
  have e1 : Ieee.double.infRung = 9218868437227405312 := by decide
  have e2 : Ieee.double.signWeight = 9223372036854775808 := by decide
  have e3 : Ieee.double.binade = 4503599627370496 := by decide
  have e4 : Ieee.double.fractionBits = 52 := by decide
  have q1 : FloatKind.f64.format.quiet t < 4503599627370496 := by
    show t ||| 2 ^ (52 - 1) < 2 ^ 52
    exact Nat.or_lt_two_pow (by simpa using h) (by decide)
  have q2 : 2251799813685248 ≤ FloatKind.f64.format.quiet t := by
    show 2251799813685248 ≤ t ||| 2 ^ (52 - 1)
    exact Nat.right_le_or
  generalize FloatKind.f64.format.quiet t = q at *
  refine read_nan64 _ ?_
  show 9218868437227405312 < (Ieee.double.word s (Ieee.double.infRung + q % Ieee.double.binade)) % 9223372036854775808
  unfold Ieee.Format.word
  rw [e1, e2, e3]
  cases s
  · simp only [Bool.false_eq_true, if_false]; omega
  · simp only [if_true]; omega
theorem nan_frac {x : Nat} {s : Bool} {t : Nat} (h : FloatKind.f64.decode x = .nan s t) : t < 4503599627370496 := by
  have h : Ieee.double.read x = .nan s t := h
  have e1 : Ieee.double.infRung = 9218868437227405312 := by decide
  have e2 : Ieee.double.signWeight = 9223372036854775808 := by decide
  unfold Ieee.Format.read at h
  rw [e1, e2] at h
  simp only at h
  have hl := Nat.mod_lt x (show 0 < 9223372036854775808 by decide)
  split at h
  · cases h
  · split at h
    · cases h
    · split at h
      · cases h
      · injection h with _ h2
        omega
theorem run_even_nan (w : World) (x : Nat) (hn : isNaN .f64 x = true) : ∃ y n, isNaN .f64 y = true ∧ (callFunc 23 #[.float .f64 x]).run Try.prog w = .ok (.value (.float .f64 y)) (w.drewN n) := by
  obtain ⟨s, t, hr⟩ := read_isNaN hn
  rw [run_callFunc_extern (e := Extern.MathFloor.toIntegral ("math.RoundToEven") .even) Try.func23 (by kernel_rfl) (by kernel_rfl) (by kernel_rfl) (by kernel_rfl)]
  have hd : FloatKind.f64.decode x = .nan s t := hr
  have key : Extern.MathFloor.toIntegral ("math.RoundToEven") .even #[.float .f64 x] = (if FloatKind.f64.format.quiet t = t then pure (.float .f64 x) else (do let kept ← choose (.extern "math.Floor,Ceil,Trunc,RoundToEven.signallingNaN kept" 2); pure (.float .f64 (if kept == 1 then x else FloatKind.f64.encode (.nan s (FloatKind.f64.format.quiet t)))))) := by
    conv => lhs; whnf
    rw [hd]
  rw [key]
  by_cases q : FloatKind.f64.format.quiet t = t
  · rw [if_pos q]
    exact ⟨x, 0, hn, rfl⟩
  · rw [if_neg q]
    have hk := nan_keep (s := s) (nan_frac hd)
    refine ⟨if ((Question.extern "math.Floor,Ceil,Trunc,RoundToEven.signallingNaN kept" 2).cut (w.tape w.drawn (Question.extern "math.Floor,Ceil,Trunc,RoundToEven.signallingNaN kept" 2))) == 1 then x else FloatKind.f64.encode (.nan s (FloatKind.f64.format.quiet t)), 1, ?_, ?_⟩
    · split
      · exact hn
      · exact hk
    · rfl
end Go.Proofs.Ytmhgcflccaflpaa
