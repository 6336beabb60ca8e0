
/-
The cents of a ratio.
-/
import Derived.Test.YtmhgcflccaflpaaLm
namespace Go.Proofs.Ytmhgcflccaflpaa
open Go Go.RowKit Fl
theorem word_lt (s : Bool) {r : Nat} (h : r ≤ Ieee.single.infRung) : Ieee.single.word s r < 4294967296 := by
  have e1 : Ieee.single.infRung = 2139095040 := by decide
  have e2 : Ieee.single.signWeight = 2147483648 := by decide
  unfold Ieee.Format.word
  cases s
  · simp only [Bool.false_eq_true, if_false]; omega
  · simp only [if_true]; omega
theorem write_lt (d : Ieee.Datum) (h : d.isNaN = false) : Ieee.single.write d < 4294967296 := by
  cases d with
  | number s m e =>
    show Ieee.single.nearest s m e < _
    unfold Ieee.Format.nearest
    dsimp only
    split
    · exact word_lt s (Nat.zero_le _)
    · exact word_lt s (Nat.min_le_right ..)
  | infinity s => exact word_lt s (Nat.le_refl _)
  | nan s t => cases h
theorem quo_lt (x y : Nat) : fop .quo .f32 x y < 4294967296 := by
  simp only [fop, Ieee.Format.div]
  cases h : (FloatKind.f32.format.read x).quotient (FloatKind.f32.format.fractionBits + 2) (FloatKind.f32.format.read y) with
  | none => simp only [Option.map_none, Option.getD_none]; decide
  | some d => simp only [Option.map_some, Option.getD_some]; exact write_lt d (quotient_not h)
theorem areaB_nv (x t : Nat) : areaB (nv .f32 x t) = areaB x := by unfold areaB; rw [finB_nv, order_nvl]
theorem areaB_nan {x : Nat} (h : areaB x = true) : isNaN .f32 x = false := by
  cases hn : isNaN .f32 x
  · rfl
  · have := order_nan_left (k := .f32) (x := x) 0 hn
    unfold areaB at h
    rw [this, Bool.and_eq_true] at h
    exact absurd h.2 (by decide)
def ratX (p q : Int) : Nat := fop .quo .f32 (floatOfInt .f32 p) (floatOfInt .f32 q)
def ratR (p q : Int) : Nat := if areaB (ratX p q) = true then logF (up (ratX p q)) else 0
def centF (p q : Int) : Nat := fop .mul .f32 1150681088 (ratR p q)
theorem c_isTerm (p : Int) (w : World) : Calls Try.prog 35 #[.int .i64 p] w (RetB (inB p 1 1000) w) := by
  go_enter Try.func35, Try.ntmps35
  go_wp2_with (go_at_call 53; refine (c_within _ _ _ _).mono ?_; rintro e w' ⟨rfl, n1, rfl⟩)
  go_ret
  exact ⟨rfl, same1 _ _⟩
/-- the logarithm of a drawn number -/
theorem c_LogTwo_any (p q : Int) (t : Nat) (w : World) : Calls Try.prog 17 #[.float .f32 (nv .f32 (ratX p q) t)] w (fun e w' => ∃ u n code, e = .returned (.tuple #[.float .f32 (nv .f32 (ratR p q) u), .int .i64 code]) ∧ w' = w.drewN n) := by
  cases h : areaB (ratX p q)
  · refine (c_LogTwo_no _ w (by rw [areaB_nv]; exact h)).mono ?_
    rintro e w' ⟨u, n, rfl, rfl⟩
    exact ⟨u, n, 2, by unfold ratR; rw [h]; rfl, rfl⟩
  · rw [nv_of t (areaB_nan h)]
    refine (c_LogTwo_ok (ratX p q) (quo_lt _ _) w h).mono ?_
    rintro e w' ⟨u, n, rfl, rfl⟩
    exact ⟨u, n, 0, by unfold ratR; rw [if_pos h], rfl⟩
theorem c_l07Log_any (p q : Int) (t : Nat) (w : World) : Calls Try.prog 33 #[.float .f32 (nv .f32 (ratX p q) t)] w (fun e w' => ∃ u n b, e = .returned (.tuple #[.float .f32 (nv .f32 (ratR p q) u), .bool b]) ∧ w' = w.drewN n) := by
  cases h : areaB (ratX p q)
  · refine (c_l07Log_no _ w (by rw [areaB_nv]; exact h)).mono ?_
    rintro e w' ⟨u, n, rfl, rfl⟩
    exact ⟨u, n, false, by unfold ratR; rw [h]; rfl, rfl⟩
  · rw [nv_of t (areaB_nan h)]
    refine (c_l07Log_ok (ratX p q) (quo_lt _ _) w h).mono ?_
    rintro e w' ⟨u, n, rfl, rfl⟩
    exact ⟨u, n, true, by unfold ratR; rw [if_pos h], rfl⟩
theorem c_CentsOf (p q : Int) (w : World) : Calls Try.prog 20 #[.int .i64 p, .int .i64 q] w (fun e w' => if inB p 1 1000 && inB q 1 1000 then RetFK (centF p q) 0 w e w' else RetFK 0 2 w e w') := by
  have hX : fop .quo .f32 (floatOfInt .f32 p) (floatOfInt .f32 q) = ratX p q := rfl
  have hC : ∀ t, fop .mul .f32 1150681088 (nv .f32 (ratR p q) t) = centF p q := fun t => by rw [fop_nvr]; rfl
  have HL := Lib.hid (c_LogTwo_any p q)
  generalize ratX p q = X at *
  generalize ratR p q = R at *
  generalize centF p q = C at *
  cases h1 : inB p 1 1000
  · simp only [Bool.false_and, Bool.false_eq_true, if_false]
    go_enter Try.func20, Try.ntmps20
    go_wp2_with (go_at_call 35; refine (c_isTerm _ _).mono ?_; rintro e w' ⟨rfl, n1, rfl⟩)
    go_ret2
    exact ⟨0, _, rfl, rfl⟩
  cases h2 : inB q 1 1000
  · simp only [Bool.and_false, Bool.false_eq_true, if_false]
    go_enter Try.func20, Try.ntmps20
    go_wp2_with (go_at_call 35; refine (c_isTerm _ _).mono ?_; rintro e w' ⟨rfl, n1, rfl⟩)
    go_ret2
    exact ⟨0, _, rfl, by first | rfl | rw [World.drewN_drewN]⟩
  · simp only [Bool.and_self, if_true]
    go_enter Try.func20, Try.ntmps20
    go_wp2_with (first | (go_at_call 35; refine (c_isTerm _ _).mono ?_; rintro e w' ⟨rfl, n1, rfl⟩) | (go_at_call 17; refine (HL.out _ _).mono ?_; rintro e w' ⟨t1, n1, c1, rfl, rfl⟩))
    go_ret2
    exact ⟨_, _, rfl, by first | rfl | rw [World.drewN_drewN]⟩
def RetFL (v : Nat) (b : Bool) (w : World) (e : Ending) (w' : World) : Prop := ∃ t n, e = .returned (.tuple #[.float .f32 (nv .f32 v t), .bool b]) ∧ w' = w.drewN n
end Go.Proofs.Ytmhgcflccaflpaa
