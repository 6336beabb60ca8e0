
/-
Contracts of the tests whether rings are quiet.
-/
import Derived.Test.YtfhegjjgfaeinaaRh
import Derived.Test.YtfhegjjgfaeinaaRi
import Derived.Test.YtfhegjjgfaeinaaDg
import Derived.Test.YtfhegjjgfaeinaaLi
import Derived.Deep.LoopGhost
namespace Go.Proofs.Ytfhegjjgfaeinaa
open Go Go.RowKit Fl
/-- the first k are 0 -/
def zeroTo (xs : List Nat) : Nat → Bool
  | 0 => true
  | k + 1 => zeroTo xs k && zeroB (nth xs k)
theorem zeroTo_false {xs : List Nat} {k : Nat} (h : zeroB (nth xs k) = false) : ∀ n, k < n → zeroTo xs n = false
  | n + 1, hk => by
    by_cases e : k = n
    · subst e; rw [zeroTo, h, Bool.and_false]
    · rw [zeroTo, zeroTo_false h n (by omega), Bool.false_and]
theorem zeroTo_all {xs : List Nat} : ∀ n, (∀ k, k < n → zeroB (nth xs k) = true) → zeroTo xs n = true
  | 0, _ => rfl
  | n + 1, h => by rw [zeroTo, zeroTo_all n fun k hk => h k (by omega), h n (by omega)]; rfl
/-- where the sample lies that came k samples ago -/
def bidx (n : Nat) (i : Int) (k : Nat) : Nat := ((i - k + n) % n).toNat
theorem bidx_lt {n : Nat} (h : 0 < n) (i : Int) (k : Nat) : bidx n i k < n := by
  unfold bidx
  have := Int.emod_lt_of_pos (i - k + n) (show (0 : Int) < n by omega)
  have := Int.emod_nonneg (i - k + n) (show (n : Int) ≠ 0 by omega)
  omega
theorem bidx_all {n : Nat} {i : Int} (h0 : 0 ≤ i) (h1 : i < n) (j : Nat) (hj : j < n) : ∃ k, 1 ≤ k ∧ k ≤ n ∧ bidx n i k = j := by
  obtain ⟨m, rfl⟩ := Int.eq_ofNat_of_zero_le h0
  by_cases h : j < m
  · refine ⟨m - j, by omega, by omega, ?_⟩
    unfold bidx
    rw [show ((m : Int) - ((m - j : Nat) : Int) + n) = ((j + n : Nat) : Int) by omega, ← Int.natCast_emod, Nat.add_mod_right, Nat.mod_eq_of_lt hj]
    rfl
  · refine ⟨m + n - j, by omega, by omega, ?_⟩
    unfold bidx
    rw [show ((m : Int) - ((m + n - j : Nat) : Int) + n) = ((j : Nat) : Int) by omega, ← Int.natCast_emod, Nat.mod_eq_of_lt hj]
    rfl
theorem c_back (a : Option Addr) (n c : Nat) (xs : List Nat) (i : Int) (k : Nat) (w : World) (h : FS w a n c xs) (h0 : 0 ≤ i) (h1 : i < n) (hk : k ≤ n) (hn : n ≤ 1024) :
    Calls Try.prog 163 #[.agg #[.slice a n c, .int .i64 i], .int .i64 k] w (RetV (.float .f32 (nth xs (bidx n i k))) w) := by
  have hb := bidx_lt (n := n) (by omega) i k
  have w1 : IntKind.i64.wrap (i - (k : Int)) = i - k := IntWalk.i64_in _ (by omega)
  have w2 : IntKind.i64.wrap (i - (k : Int) + (n : Int)) = i - k + n := IntWalk.i64_in _ (by omega)
  have w3 : (i - (k : Int) + (n : Int)).tmod n = ((bidx n i k : Nat) : Int) := by
    rw [Int.tmod_eq_emod_of_nonneg (by omega)]
    unfold bidx
    rw [Int.toNat_of_nonneg (Int.emod_nonneg _ (by omega))]
  have w4 : IntKind.i64.wrap ((bidx n i k : Nat) : Int) = ((bidx n i k : Nat) : Int) := IntWalk.i64_in _ (by omega)
  have hne : ¬ (n : Int) = 0 := by omega
  have hne2 : ¬ n = 0 := by omega
  obtain ⟨b, o, rfl, hbl, hcell⟩ := h.at_ (by omega)
  have hc := hcell _ hb
  have hcap := h.cap
  have hbig := h.big
  clear hcell h
  generalize bidx n i k = B at *
  go_enter Try.func163, Try.ntmps163
  go_wp2_with (go_at_call 87; refine (c_length _ _ _ _).mono ?_; rintro e w' ⟨rfl, rfl⟩)
  refine wp_region_sets' (by kernel_rfl) (by kernel_rfl) ?_
  apply Exists.intro
  iterate 13 (apply lx_want; kernel_rfl; (intro n; go_simp; exact ⟨OneV.mk _, _, (by first | rfl | exact congrArg _ (Nat.add_assoc _ _ _))⟩); rintro _ rfl)
  (refine lx_nil (Vl := []) ?_; intro n; simp only [Act.put, List.setIfInBounds_toArray, List.set_cons_succ, List.set_cons_zero])
  go_wp2
  go_ret
  exact ⟨rfl, by (repeat (first | (with_reducible refine Below.drewN ?_) | (with_reducible refine Below.drew ?_) | ((with_reducible refine Below.alloc ?_ ?_ _); rotate_left; (first | omega | (simp <;> omega))) | ((with_reducible refine Below.setCell ?_ ?_ _); rotate_left; (first | omega | (simp <;> omega))) | (with_reducible exact Below.refl _ _) | (with_reducible assumption)))⟩
/-- how many samples are quiet: m more are looked at behind the first k -/
def quietFrom (f : Nat → Bool) : Nat → Nat → Nat
  | 0, k => k
  | m + 1, k => if f (k + 1) then quietFrom f m (k + 1) else k
theorem quietFrom_true {f : Nat → Bool} : ∀ m k, (∀ j, k < j → j ≤ k + m → f j = true) → quietFrom f m k = k + m
  | 0, _, _ => rfl
  | m + 1, k, h => by
    rw [quietFrom, if_pos (h (k + 1) (by omega) (by omega)), quietFrom_true m (k + 1) fun j h1 h2 => h j (by omega) (by omega)]; omega
theorem quietFrom_lt {f : Nat → Bool} : ∀ m k, (∃ j, k < j ∧ j ≤ k + m ∧ f j = false) → quietFrom f m k < k + m
  | 0, _, ⟨j, h1, h2, _⟩ => by omega
  | m + 1, k, ⟨j, h1, h2, h3⟩ => by
    rw [quietFrom]
    by_cases hf : f (k + 1) = true
    · rw [if_pos hf]
      have : j ≠ k + 1 := fun h => by rw [h, hf] at h3; cases h3
      have := quietFrom_lt m (k + 1) ⟨j, by omega, by omega, h3⟩
      omega
    · rw [if_neg hf]; omega
theorem zeroTo_nth {xs : List Nat} : ∀ {n : Nat}, zeroTo xs n = true → ∀ k, k < n → zeroB (nth xs k) = true
  | n + 1, h, k, hk => by
    rw [zeroTo, Bool.and_eq_true] at h
    by_cases e : k = n
    · subst e; exact h.2
    · exact zeroTo_nth h.1 k (by omega)
theorem zeroTo_some {xs : List Nat} : ∀ {n : Nat}, zeroTo xs n = false → ∃ k, k < n ∧ zeroB (nth xs k) = false
  | n + 1, h => by
    rw [zeroTo, Bool.and_eq_false_iff] at h
    rcases h with h | h
    · obtain ⟨k, hk, h⟩ := zeroTo_some h; exact ⟨k, by omega, h⟩
    · exact ⟨n, by omega, h⟩
def quietN (xs : List Nat) (n : Nat) (i : Int) : Nat := quietFrom (fun k => zeroB (nth xs (bidx n i k))) n 0
theorem quiet_all {xs : List Nat} {n : Nat} {i : Int} (h0 : 0 ≤ i) (h1 : i < n) : (((quietN xs n i : Nat) : Int) == (n : Int)) = zeroTo xs n := by
  unfold quietN
  cases hz : zeroTo xs n
  · obtain ⟨k, hk, hf⟩ := zeroTo_some hz
    obtain ⟨q, q1, q2, q3⟩ := bidx_all h0 h1 k hk
    have := quietFrom_lt (f := fun k => zeroB (nth xs (bidx n i k))) n 0 ⟨q, by omega, by omega, by simp only [q3]; exact hf⟩
    simp; omega
  · rw [quietFrom_true n 0 fun j h1 h2 => zeroTo_nth hz _ (bidx_lt (by omega) _ _)]
    simp
theorem c_quiet (a : Option Addr) (n c : Nat) (xs : List Nat) (i : Int) (w : World) (h : FS w a n c xs) (hr : ringB n i = true) :
    Calls Try.prog 158 #[.agg #[.slice a n c, .int .i64 i]] w (RetV (.int .i64 ((quietN xs n i : Nat) : Int)) w) := by
  unfold ringB at hr
  rw [Bool.and_eq_true] at hr
  obtain ⟨n1, n2⟩ := inB_yes hr.1
  obtain ⟨i1, i2⟩ := inB_yes hr.2
  clear hr
  have HB : Hid (∀ W (k : Nat), Below w.heap.size w W → k ≤ n → Calls Try.prog 163 #[.agg #[.slice a n c, .int .i64 i], .int .i64 k] W (RetV (.float .f32 (nth xs (bidx n i k))) W)) :=
    fun W k hW hk => c_back _ _ _ _ _ _ _ (h.below hW (Nat.le_refl _)) i1 (by omega) hk (by omega)
  clear h
  unfold quietN
  obtain ⟨Q, hQ⟩ : ∃ Q, quietFrom (fun k => zeroB (nth xs (bidx n i k))) n 0 = Q := ⟨_, rfl⟩
  have H0 : Hid (quietFrom (fun k => zeroB (nth xs (bidx n i k))) (n - 0) 0 = Q) := hQ
  rw [hQ]
  clear hQ
  go_enter Try.func158, Try.ntmps158
  go_wp2_with (go_at_call 87; refine (c_length _ _ _ _).mono ?_; rintro e w' ⟨rfl, rfl⟩)
  go_loopw [4] (fun x wr => ∃ k : Nat, k ≤ n ∧ x = .int .i64 ((k + 1 : Nat) : Int) ∧ Hid (quietFrom (fun k => zeroB (nth xs (bidx n i k))) (n - k) k = Q) ∧ Below w.heap.size w wr ∧ wr.cell? ⟨w.heap.size, 0, none⟩ = some (.slice a n c) ∧ wr.cell? ⟨w.heap.size, 1, none⟩ = some (.int .i64 i) ∧ w.heap.size < wr.heap.size) (fun x _ => n + 1 - (intOf x).toNat)
  case atStart => exact ⟨0, by omega, rfl, H0, by (repeat (first | (with_reducible refine Below.drewN ?_) | (with_reducible refine Below.drew ?_) | ((with_reducible refine Below.alloc ?_ ?_ _); rotate_left; (first | omega | (simp <;> omega))) | ((with_reducible refine Below.setCell ?_ ?_ _); rotate_left; (first | omega | (simp <;> omega))) | (with_reducible exact Below.refl _ _) | (with_reducible assumption))), by simp, by simp, by simp⟩
  case round =>
    obtain ⟨k, hk, rfl, hq, hbe, hc0, hc1, hsz⟩ := hrel
    by_cases hlt : k < n
    · cases hz : zeroB (nth xs (bidx n i (k + 1)))
      · have HU : Hid (k = Q) := by show k = Q; rw [← hq.out, show n - k = (n - k - 1) + 1 by omega, quietFrom, if_neg (by simp [hz])]
        unfold zeroB at hz
        have hz' : (FloatKind.f32.format.order (nth xs (bidx n i (k + 1))) 0 != some .eq) = true := by rw [bne, hz]; rfl
        clear hz hq
        go_wp2_with fail
        refine (HB.out _ (k + 1) (by (repeat (first | (with_reducible refine Below.drewN ?_) | (with_reducible refine Below.drew ?_) | ((with_reducible refine Below.alloc ?_ ?_ _); rotate_left; (first | omega | (simp <;> omega))) | ((with_reducible refine Below.setCell ?_ ?_ _); rotate_left; (first | omega | (simp <;> omega))) | (with_reducible exact Below.refl _ _) | (with_reducible assumption)))) (by omega)).mono ?_
        rintro e w1 ⟨rfl, hb1⟩
        obtain ⟨hd1, hf1, hs1⟩ := bcell hb1
        have b1 : Below w.heap.size w w1 := hbe.trans (hb1.mono (by omega))
        go_wp2
        go_ret
        exact ⟨by rw [← HU.out]; simp, by (repeat (first | (with_reducible refine Below.drewN ?_) | (with_reducible refine Below.drew ?_) | ((with_reducible refine Below.alloc ?_ ?_ _); rotate_left; (first | omega | (simp <;> omega))) | ((with_reducible refine Below.setCell ?_ ?_ _); rotate_left; (first | omega | (simp <;> omega))) | (with_reducible exact Below.refl _ _) | (with_reducible assumption)))⟩
      · have HU : Hid (quietFrom (fun k => zeroB (nth xs (bidx n i k))) (n - (k + 1)) (k + 1) = Q) := by show _ = Q; rw [← hq.out, show n - k = (n - (k + 1)) + 1 by omega, quietFrom, if_pos (by simp [hz])]
        unfold zeroB at hz
        have hz' : (FloatKind.f32.format.order (nth xs (bidx n i (k + 1))) 0 != some .eq) = false := by rw [bne, hz]; rfl
        clear hz hq
        go_wp2_with fail
        refine (HB.out _ (k + 1) (by (repeat (first | (with_reducible refine Below.drewN ?_) | (with_reducible refine Below.drew ?_) | ((with_reducible refine Below.alloc ?_ ?_ _); rotate_left; (first | omega | (simp <;> omega))) | ((with_reducible refine Below.setCell ?_ ?_ _); rotate_left; (first | omega | (simp <;> omega))) | (with_reducible exact Below.refl _ _) | (with_reducible assumption)))) (by omega)).mono ?_
        rintro e w1 ⟨rfl, hb1⟩
        obtain ⟨hd1, hf1, hs1⟩ := bcell hb1
        have b1 : Below w.heap.size w w1 := hbe.trans (hb1.mono (by omega))
        have hd0 := hd1 w.heap.size 0 hsz
        have hd2 := hd1 w.heap.size 1 hsz
        go_wp2
        go_roundw
        case rel => exact ⟨k + 1, by omega, by go_num, HU, b1, by rw [hd0]; exact hc0, by rw [hd2]; exact hc1, by omega⟩
        case measure => simp [intOf]; omega
    · obtain rfl : k = n := by omega
      have HU : Hid (k = Q) := by show k = Q; rw [← hq.out, Nat.sub_self]; rfl
      go_wp2
      go_ret
      exact ⟨by rw [← HU.out]; rfl, by (repeat (first | (with_reducible refine Below.drewN ?_) | (with_reducible refine Below.drew ?_) | ((with_reducible refine Below.alloc ?_ ?_ _); rotate_left; (first | omega | (simp <;> omega))) | ((with_reducible refine Below.setCell ?_ ?_ _); rotate_left; (first | omega | (simp <;> omega))) | (with_reducible exact Below.refl _ _) | (with_reducible assumption)))⟩
theorem c_lengthV (a : Option Addr) (n c : Nat) (w : World) : Calls Try.prog 87 #[.slice a n c] w (RetV (.int .i64 n) w) := (c_length a n c w).mono fun _ _ ⟨he, hw⟩ => ⟨he, hw ▸ Below.refl _ _⟩
theorem c_isQuiet (a : Option Addr) (n c : Nat) (xs : List Nat) (i : Int) (w : World) (h : FS w a n c xs) (hr : ringB n i = true) :
    Calls Try.prog 140 #[.agg #[.slice a n c, .int .i64 i]] w (RetV (.bool (zeroTo xs n)) w) := by
  have HE : Hid ((((quietN xs n i : Nat) : Int) == (n : Int)) = zeroTo xs n) := by
    unfold ringB at hr
    rw [Bool.and_eq_true] at hr
    have n1 := inB_yes hr.1
    have i1 := inB_yes hr.2
    exact quiet_all i1.1 (by omega)
  have HQ : Hid (∀ W, Below w.heap.size w W → Calls Try.prog 158 #[.agg #[.slice a n c, .int .i64 i]] W (RetV (.int .i64 ((quietN xs n i : Nat) : Int)) W)) := fun W hW => c_quiet _ _ _ _ _ _ (h.below hW (Nat.le_refl _)) hr
  clear h hr
  generalize quietN xs n i = Q at *
  go_enter Try.func140, Try.ntmps140
  go_wp2
  have hal : Below w.heap.size w (w.alloc (.cells #[.slice a n c, .int .i64 i] 42)) := by (repeat (first | (with_reducible refine Below.drewN ?_) | (with_reducible refine Below.drew ?_) | ((with_reducible refine Below.alloc ?_ ?_ _); rotate_left; (first | omega | (simp <;> omega))) | ((with_reducible refine Below.setCell ?_ ?_ _); rotate_left; (first | omega | (simp <;> omega))) | (with_reducible exact Below.refl _ _) | (with_reducible assumption)))
  refine wp_region_grow [] [] (by kernel_rfl) (by kernel_rfl) (by kernel_rfl) ?_
  apply Exists.intro
  (apply lh_o; kernel_rfl; kernel_rfl; kernel_rfl; (intro W hW; have hWc := Grow.cells hW; go_simp; exact ⟨OneV.mk _, Grow.refl _⟩))
  (apply lh_o; kernel_rfl; kernel_rfl; kernel_rfl; (intro W hW; go_simp; first | exact gB (HQ.out _ (hal.trans (hW.mono (by simp)))) | exact gV (HQ.out _ (hal.trans (hW.mono (by simp))))))
  iterate 2 (apply lh_o; kernel_rfl; kernel_rfl; kernel_rfl; (intro W hW; have hWc := Grow.cells hW; go_simp; exact ⟨OneV.mk _, Grow.refl _⟩))
  (apply lh_o; kernel_rfl; kernel_rfl; kernel_rfl; (intro W hW; go_simp; first | exact gB (c_lengthV _ _ _ _) | exact gV (c_lengthV _ _ _ _)))
  iterate 2 (apply lh_o; kernel_rfl; kernel_rfl; kernel_rfl; (intro W hW; have hWc := Grow.cells hW; go_simp; exact ⟨OneV.mk _, Grow.refl _⟩))
  (refine lh_nil ?_; intro W hW; simp only [Act.put, List.setIfInBounds_toArray, List.set_cons_succ, List.set_cons_zero])
  go_wp2
  go_ret
  exact ⟨by rw [HE.out]; rfl, hal.trans (Below.mono hW (by simp))⟩
/-- the samples of the first k rings are 0 -/
def rgsZero (rs : List Rg) : Nat → Bool
  | 0 => true
  | k + 1 => rgsZero rs k && zeroTo (rat rs k).xs (rat rs k).n
theorem rgsZero_false {rs : List Rg} {k : Nat} (h : zeroTo (rat rs k).xs (rat rs k).n = false) : ∀ n, k < n → rgsZero rs n = false
  | n + 1, hk => by
    by_cases e : k = n
    · subst e; rw [rgsZero, h, Bool.and_false]
    · rw [rgsZero, rgsZero_false h n (by omega), Bool.false_and]
theorem c_l04Zero (b o : Nat) (rs : List Rg) (n c : Nat) (w : World) (hs : n ≤ 1048576) (h : ∀ j, j < n → RAt w b (o + j * 2) (rat rs j)) :
    Calls Try.prog 136 #[.slice (some ⟨b, o, none⟩) n c] w (RetB (rgsZero rs n) w) := by
  have HA := Lib.hid h
  clear h
  go_enter Try.func136, Try.ntmps136
  go_wp2
  go_loopg [3, 4] n (fun g i _ wr => ∃ k : Nat, k ≤ n ∧ g = n - k ∧ i = .int .i64 k ∧ Hid (rgsZero rs k = true) ∧ w = wr)
  case atStart => exact ⟨0, by omega, by omega, rfl, rfl, rfl⟩
  case round =>
    obtain ⟨k, hk, rfl, rfl, hall, hw⟩ := hrel
    subst hw
    by_cases hlt : k < n
    · have hr := HA.out k hlt
      have hc0 := hr.c0
      have hbig : (rat rs k).n ≤ 9223372036854775807 := Nat.le_trans hr.fs.cap hr.fs.big
      have HC := Lib.hid hr.fs.at_
      generalize hN : (rat rs k).n = N at *
      generalize hX : (rat rs k).xs = X at *
      clear hr
      go_wp2
      go_loopg [4] N (fun g i wr => ∃ j : Nat, j ≤ N ∧ g = N - j ∧ i = .int .i64 j ∧ Hid (zeroTo X j = true) ∧ w = wr)
      case atStart => exact ⟨0, by omega, by omega, rfl, rfl, rfl⟩
      case round =>
        obtain ⟨j, hj, rfl, rfl, hal2, hw⟩ := hrel
        subst hw
        by_cases hlt2 : j < N
        · obtain ⟨bl, o2, ha, hbl, hcell⟩ := HC.out (by omega)
          rw [ha] at hc0
          have d1 := hcell j hlt2
          clear hcell
          cases hz : zeroB (nth X j)
          · have HU : Hid (rgsZero rs n = false) := rgsZero_false (by rw [hN, hX]; exact zeroTo_false hz N hlt2) n hlt
            unfold zeroB at hz
            have hz' : (FloatKind.f32.format.order (nth X j) 0 != some .eq) = true := by rw [bne, hz]; rfl
            clear hz
            go_wp2
            go_ret
            exact ⟨by rw [HU.out]; rfl, same0 _⟩
          · have HU : Hid (zeroTo X (j + 1) = true) := by rw [zeroTo, hal2.out, hz]; rfl
            unfold zeroB at hz
            have hz' : (FloatKind.f32.format.order (nth X j) 0 != some .eq) = false := by rw [bne, hz]; rfl
            clear hz
            go_wp2
            go_roundg (N - (j + 1))
            case rel => exact ⟨j + 1, by omega, rfl, by go_num, HU, rfl⟩
            case measure => omega
        · obtain rfl : j = N := by omega
          have HU : Hid (rgsZero rs (k + 1) = true) := by rw [rgsZero, hall.out, hN, hX, hal2.out]; rfl
          clear HC
          go_wp2
          go_roundg (n - (k + 1))
          case rel => exact ⟨k + 1, by omega, rfl, by go_num, HU, rfl⟩
          case measure => omega
    · obtain rfl : k = n := by omega
      go_wp2
      go_ret
      exact ⟨by rw [hall.out]; rfl, same0 _⟩
end Go.Proofs.Ytfhegjjgfaeinaa
