
/-
Are rooms the same: the program.
-/
import Derived.Test.YtfhegjjgfaeinaaZa
namespace Go.Proofs.Ytfhegjjgfaeinaa
open Go Go.RowKit Fl
theorem c_sameTap (t u : Int × Nat) (w : World) : Calls Try.prog 109 #[.agg #[.int .i64 t.1, .float .f32 t.2], .agg #[.int .i64 u.1, .float .f32 u.2]] w (RetV (.bool (tapS t u)) w) := by
  have KS : Hid (∀ W, Calls Try.prog 106 #[.float .f32 t.2, .float .f32 u.2] W (RetB (sameB t.2 u.2) W)) := fun W => c_SameSample _ _ W
  rw [show tapS t u = ((t.1 == u.1) && sameB t.2 u.2) from rfl]
  cases o1 : (t.1 == u.1)
  · go_enter Try.func109, Try.ntmps109
    go_wp2
    go_ret
    exact ⟨rfl, by (repeat (first | (with_reducible refine Below.drewN ?_) | (with_reducible refine Below.drew ?_) | ((with_reducible refine Below.alloc ?_ ?_ _); rotate_left; (first | omega | (simp <;> omega))) | ((with_reducible refine Below.setCell ?_ ?_ _); rotate_left; (first | omega | (simp <;> omega))) | (with_reducible exact Below.refl _ _) | (with_reducible assumption)))⟩
  go_enter Try.func109, Try.ntmps109
  go_wp2_with fail
  refine (KS.out _).mono ?_
  rintro e w' ⟨rfl, d2, rfl⟩
  go_wp2
  go_ret
  exact ⟨rfl, by (repeat (first | (with_reducible refine Below.drewN ?_) | (with_reducible refine Below.drew ?_) | ((with_reducible refine Below.alloc ?_ ?_ _); rotate_left; (first | omega | (simp <;> omega))) | ((with_reducible refine Below.setCell ?_ ?_ _); rotate_left; (first | omega | (simp <;> omega))) | (with_reducible exact Below.refl _ _) | (with_reducible assumption)))⟩
theorem c_EqualFuncT (a b : Option Addr) (n c m d : Nat) (ts us : List (Int × Nat)) (w : World) (h : TS w a n c ts) (h' : TS w b m d us) :
    Calls Try.prog 108 #[.slice a n c, .slice b m d, .func (.func 109) #[] #[]] w (RetV (.bool (decide ((n : Int) = m) && tapsTo ts us n)) w) := by
  have HA := Lib.hid h.at_
  have HB := Lib.hid h'.at_
  have mn : n ≤ 9223372036854775807 := Nat.le_trans h.cap h.big
  have mm : m ≤ 9223372036854775807 := Nat.le_trans h'.cap h'.big
  clear h h'
  by_cases q : (n : Int) = m
  rotate_left
  · rw [decide_eq_false q, Bool.false_and]
    go_enter Try.func108, Try.ntmps108
    go_wp2
    go_ret
    exact ⟨rfl, by (repeat (first | (with_reducible refine Below.drewN ?_) | (with_reducible refine Below.drew ?_) | ((with_reducible refine Below.alloc ?_ ?_ _); rotate_left; (first | omega | (simp <;> omega))) | ((with_reducible refine Below.setCell ?_ ?_ _); rotate_left; (first | omega | (simp <;> omega))) | (with_reducible exact Below.refl _ _) | (with_reducible assumption)))⟩
  rw [decide_eq_true q, Bool.true_and]
  obtain rfl : n = m := by omega
  clear q
  go_enter Try.func108, Try.ntmps108
  go_wp2
  go_loopw [7, 8, 9, 17] (fun _ _ _ i wr => ∃ k : Nat, k ≤ n ∧ i = .int .i64 k ∧ Hid (tapsTo ts us k = true) ∧ Below w.heap.size w wr) (fun _ _ _ i _ => n - (intOf i).toNat)
  case atStart => exact ⟨0, by omega, rfl, rfl, Below.refl _ _⟩
  case round =>
    obtain ⟨k, hk, rfl, hall, hbe⟩ := hrel
    by_cases hlt : k < n
    · obtain ⟨b1, o1, rfl, hb1, hc1⟩ := HA.out (by omega)
      obtain ⟨b2, o2, rfl, hb2, hc2⟩ := HB.out (by omega)
      have x0 := (hbe.cell (p := ⟨b1, o1 + k * 2, none⟩) hb1).trans (hc1 k hlt).1
      have x1 := (hbe.cell (p := ⟨b1, o1 + k * 2 + 1, none⟩) hb1).trans (hc1 k hlt).2
      have y0 := (hbe.cell (p := ⟨b2, o2 + k * 2, none⟩) hb2).trans (hc2 k hlt).1
      have y1 := (hbe.cell (p := ⟨b2, o2 + k * 2 + 1, none⟩) hb2).trans (hc2 k hlt).2
      have z1 : b1 < wr.heap.size := Nat.lt_of_lt_of_le hb1 hbe.size
      have z2 : b2 < wr.heap.size := Nat.lt_of_lt_of_le hb2 hbe.size
      have bz := hbe.size
      have HT : Hid (∀ W, Calls Try.prog 109 #[.agg #[.int .i64 (tat ts k).1, .float .f32 (tat ts k).2], .agg #[.int .i64 (tat us k).1, .float .f32 (tat us k).2]] W (RetV (.bool (tapS (tat ts k) (tat us k))) W)) := fun W => c_sameTap _ _ W
      have hT : tapsTo ts us (k + 1) = (tapsTo ts us k && tapS (tat ts k) (tat us k)) := rfl
      clear hc1 hc2
      cases f : tapS (tat ts k) (tat us k)
      · rw [f] at HT
        have HU := Lib.hid (tapsTo_false f n hlt)
        clear f hT
        go_wp2_with fail
        refine (HT.out _).mono ?_
        rintro e w1 ⟨rfl, hb⟩
        have bE : Below w.heap.size w w1 := Below.trans (by (repeat (first | (with_reducible refine Below.drewN ?_) | (with_reducible refine Below.drew ?_) | ((with_reducible refine Below.alloc ?_ ?_ _); rotate_left; (first | omega | (simp <;> omega))) | ((with_reducible refine Below.setCell ?_ ?_ _); rotate_left; (first | omega | (simp <;> omega))) | (with_reducible exact Below.refl _ _) | (with_reducible assumption)))) (hb.mono (by simp; omega))
        go_wp2
        go_ret
        exact ⟨by rw [HU.out]; rfl, bE⟩
      rw [f] at HT
      have HU : Hid (tapsTo ts us (k + 1) = true) := by rw [hT, hall.out, f]; rfl
      clear f hT
      go_wp2_with fail
      refine (HT.out _).mono ?_
      rintro e w1 ⟨rfl, hb⟩
      have bE : Below w.heap.size w w1 := Below.trans (by (repeat (first | (with_reducible refine Below.drewN ?_) | (with_reducible refine Below.drew ?_) | ((with_reducible refine Below.alloc ?_ ?_ _); rotate_left; (first | omega | (simp <;> omega))) | ((with_reducible refine Below.setCell ?_ ?_ _); rotate_left; (first | omega | (simp <;> omega))) | (with_reducible exact Below.refl _ _) | (with_reducible assumption)))) (hb.mono (by simp; omega))
      go_wp2
      go_roundw
      case rel => exact ⟨k + 1, by omega, by go_num, HU, bE⟩
      case measure => simp [intOf]; omega
    · obtain rfl : k = n := by omega
      go_wp2
      go_ret
      exact ⟨by rw [hall.out]; rfl, hbe⟩
end Go.Proofs.Ytfhegjjgfaeinaa
