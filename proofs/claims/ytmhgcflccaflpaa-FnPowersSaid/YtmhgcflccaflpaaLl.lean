
/-
Ldexp, the program's logarithm and the law of LogTwo.
-/
import Derived.Test.YtmhgcflccaflpaaLk
namespace Go.Proofs.Ytmhgcflccaflpaa
open Go Go.RowKit Fl
def RetF64 (v : Nat) (w : World) (e : Ending) (w' : World) : Prop := e = .returned (.float .f64 v) ∧ ∃ n, w' = w.drewN n
set_option maxRecDepth 20000 in
theorem c_ldexp (b : Nat) (h1 : B52 ≤ b) (h2 : b < INF) (k : Int) (E2 : Nat) (he2 : ((b / B52 : Nat) : Int) + k = E2) (hE : 1 ≤ E2) (hE' : E2 ≤ 2046) (w : World) : Calls Try.prog 46 #[.float .f64 b, .int .i64 k] w (RetF64 (E2 * B52 + b % B52) w) := by
  have hp := Lib.hid (pf h1 h2)
  have hz := (pf h1 h2).z
  have hv := (pf h1 h2).v
  have he : b / B52 < 2048 := Nat.div_lt_of_lt_mul (Nat.lt_trans h2 (by decide))
  have hf := Nat.mod_lt b b52_pos
  have g1 := quo52 b
  have g2 := bits_and_i he
  have g3 := bits_frac (b := b) (Nat.lt_trans h2 (by decide))
  have g4 := bits_or52 (f := b % B52) (e := E2) hf (by omega)
  rw [Int.natCast_mul, show ((4503599627370496 : Nat) : Int) = 4503599627370496 from rfl] at g4
  have g5 : IntKind.i64.wrap ((b / B52 : Nat) : Int) = ((b / B52 : Nat) : Int) := IntWalk.i64_in _ (by omega)
  have g6 : IntKind.i64.wrap (((b / B52 : Nat) : Int) - 1023) = ((b / B52 : Nat) : Int) - 1023 := IntWalk.i64_in _ (by omega)
  have g7 : IntKind.i64.wrap (k + (((b / B52 : Nat) : Int) - 1023)) = (E2 : Int) - 1023 := by rw [IntWalk.i64_in _ (by omega)]; omega
  have g8 : IntKind.i64.wrap (k + 0) = k := by rw [IntWalk.i64_in _ (by omega)]; omega
  have g9 : IntKind.i64.wrap ((E2 : Int) - 1023 + 1023) = (E2 : Int) := by rw [IntWalk.i64_in _ (by omega)]; omega
  have g10 : IntKind.u64.wrap (E2 : Int) = (E2 : Int) := IntWalk.u64_in _ (by omega)
  have c1 : ¬ ((E2 : Int) - 1023 < -1075) := by omega
  have c2 : ¬ ((E2 : Int) - 1023 > 1023) := by omega
  have c3 : ¬ ((E2 : Int) - 1023 < -1022) := by omega
  have hr1 : B52 ≤ E2 * B52 + b % B52 := Nat.le_trans (Nat.le_mul_of_pos_left _ hE) (Nat.le_add_right _ _)
  have hr2 : E2 * B52 + b % B52 < INF := by
    have : E2 * B52 ≤ 2046 * B52 := Nat.mul_le_mul_right _ hE'
    have hB := b52_val; have hI := inf_val
    omega
  have gm := one_mul_f hr1 hr2
  have hw := (pf hr1 hr2).v
  generalize E2 * B52 + b % B52 = R at *
  generalize b % B52 = f at *
  generalize b / B52 = E at *
  have g11 : IntKind.i64.wrap k = k := by rw [IntWalk.i64_in _ (by omega)]
  clear h1 h2 hf he hr1 hr2 he2 hE hE'
  go_enter Try.func46, Try.ntmps46
  go_wp2_with (first | (go_at_call 57; refine (c_IsInf_pos b hp.out _).mono ?_; rintro e w' ⟨rfl, n1, rfl⟩) | (go_at_call 56; refine (c_IsNaN_pos b hp.out _).mono ?_; rintro e w' ⟨rfl, n1, rfl⟩) | (go_at_call 59; refine (c_normalize_pos b hp.out _).mono ?_; rintro e w' ⟨rfl, n1, rfl⟩))
  go_ret
  exact ⟨rfl, same1 _ _⟩
theorem c_Ldexp (b : Nat) (h1 : B52 ≤ b) (h2 : b < INF) (k : Int) (E2 : Nat) (he2 : ((b / B52 : Nat) : Int) + k = E2) (hE : 1 ≤ E2) (hE' : E2 ≤ 2046) (w : World) : Calls Try.prog 29 #[.float .f64 b, .int .i64 k] w (RetF64 (E2 * B52 + b % B52) w) := by
  have hc := fun w => c_ldexp b h1 h2 k E2 he2 hE hE' w
  have HC := Lib.hid hc
  clear hc h1 h2 he2 hE hE'
  generalize E2 * B52 + b % B52 = R at *
  go_enter Try.func29, Try.ntmps29
  go_wp2_with (go_at_call 46; refine (HC.out _).mono ?_; rintro e w' ⟨rfl, n1, rfl⟩)
  go_ret
  exact ⟨rfl, same1 _ _⟩
theorem c_Frexp (b : Nat) (h1 : B52 ≤ b) (h2 : b < INF) (w : World) : Calls Try.prog 32 #[.float .f64 b] w (fun e w' => e = .returned (.tuple #[.float .f64 (1022 * B52 + b % B52), .int .i64 (((b / B52 : Nat) : Int) - 1022)]) ∧ ∃ n, w' = w.drewN n) := by
  have hc := fun w => c_frexp b h1 h2 w
  have HC := Lib.hid hc
  clear hc h1 h2
  generalize 1022 * B52 + b % B52 = R at *
  generalize ((b / B52 : Nat) : Int) - 1022 = E at *
  go_enter Try.func32, Try.ntmps32
  go_wp2_with (go_at_call 50; refine (HC.out _).mono ?_; rintro e w' ⟨rfl, n1, rfl⟩)
  go_ret2
  exact ⟨rfl, same1 _ _⟩
end Go.Proofs.Ytmhgcflccaflpaa
