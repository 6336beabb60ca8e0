
/-
Contracts of the tests whether samples, lists, rings and filters are the same.
-/
import Derived.Test.YtfhegjjgfaeinaaRi
import Derived.Test.YtfhegjjgfaeinaaRh
namespace Go.Proofs.Ytfhegjjgfaeinaa
open Go Go.RowKit Fl
/-- the first k are the same -/
def sameTo (xs ys : List Nat) : Nat → Bool
  | 0 => true
  | k + 1 => sameTo xs ys k && sameB (nth xs k) (nth ys k)
theorem sameTo_false {xs ys : List Nat} {k : Nat} (h : sameB (nth xs k) (nth ys k) = false) : ∀ n, k < n → sameTo xs ys n = false
  | n + 1, hk => by
    by_cases e : k = n
    · subst e; rw [sameTo, h, Bool.and_false]
    · rw [sameTo, sameTo_false h n (by omega), Bool.false_and]
def sameL (n m : Nat) (xs ys : List Nat) : Bool := decide (n = m) && sameTo xs ys n
theorem c_SameSample (a b : Nat) (w : World) : Calls Try.prog 106 #[.float .f32 a, .float .f32 b] w (RetB (sameB a b) w) := by
  go_enter Try.func106, Try.ntmps106
  go_wp2_with (go_at_call 150; refine (c_bitsOf _ _).mono ?_; rintro e w' ⟨rfl, n1, rfl⟩)
  go_ret
  exact ⟨rfl, same1 _ _⟩
theorem c_EqualFunc (a b : Option Addr) (n c m d : Nat) (xs ys : List Nat) (w : World) (ha : FS w a n c xs) (hb : FS w b m d ys) :
    Calls Try.prog 162 #[.slice a n c, .slice b m d, .func (.func 106) #[] #[]] w (RetB (sameL n m xs ys) w) := by
  have hbig : n ≤ 9223372036854775807 := Nat.le_trans ha.cap ha.big
  have hbig2 : m ≤ 9223372036854775807 := Nat.le_trans hb.cap hb.big
  have HA := Lib.hid ha.at_
  have HB := Lib.hid hb.at_
  clear ha hb
  by_cases hnm : n = m
  · subst hnm
    have e : sameL n n xs ys = sameTo xs ys n := by unfold sameL; rw [decide_eq_true rfl]; rfl
    rw [e]
    clear e hbig2
    go_enter Try.func162, Try.ntmps162
    go_wp2
    go_loopw [17] (fun i wr => ∃ k : Nat, k ≤ n ∧ i = .int .i64 k ∧ Hid (sameTo xs ys k = true) ∧ ∃ q, wr = w.drewN q) (fun i _ => n - (intOf i).toNat)
    case atStart => exact ⟨0, by omega, rfl, rfl, 0, rfl⟩
    case round =>
      obtain ⟨k, hk, rfl, hall, q, rfl⟩ := hrel
      by_cases hlt : k < n
      · obtain ⟨bl, o, rfl, hbl, hcell⟩ := HA.out (by omega)
        obtain ⟨bl2, o2, rfl, hbl2, hcell2⟩ := HB.out (by omega)
        have d1 := hcell k hlt
        have d2 := hcell2 k hlt
        clear HA HB hcell hcell2
        cases hf : sameB (nth xs k) (nth ys k)
        · have HU := Lib.hid (sameTo_false hf n hlt)
          go_wp2_with (go_at_call 106; refine (c_SameSample _ _ _).mono ?_; rintro e w' ⟨rfl, n1, rfl⟩)
          go_ret
          exact ⟨by rw [HU.out]; rfl, same1 _ _⟩
        · have HU : Hid (sameTo xs ys (k + 1) = true) := by rw [sameTo, hall.out, hf]; rfl
          go_wp2_with (go_at_call 106; refine (c_SameSample _ _ _).mono ?_; rintro e w' ⟨rfl, n1, rfl⟩)
          go_roundw
          case rel => exact ⟨k + 1, by omega, by go_num, HU, same1 _ _⟩
          case measure => simp [intOf]; omega
      · obtain rfl : k = n := by omega
        go_wp2
        go_ret
        exact ⟨by rw [hall.out]; rfl, same1 _ _⟩
  · have e : sameL n m xs ys = false := by unfold sameL; rw [decide_eq_false hnm]; rfl
    have hb : ((n : Int) == (m : Int)) = false := by simpa using (fun h => hnm (by omega))
    have hb' : ((n : Int) != (m : Int)) = true := by rw [bne, hb]; rfl
    rw [e]
    clear e HA HB hnm
    go_enter Try.func162, Try.ntmps162
    go_wp2
    go_ret
    exact ⟨rfl, same0 _⟩
theorem c_sameSamples (a b : Option Addr) (n c m d : Nat) (xs ys : List Nat) (w : World) (ha : FS w a n c xs) (hb : FS w b m d ys) :
    Calls Try.prog 149 #[.slice a n c, .slice b m d] w (RetB (sameL n m xs ys) w) := by
  have HA := Lib.hid ha
  have HB := Lib.hid hb
  clear ha hb
  go_enter Try.func149, Try.ntmps149
  go_wp2_with fail
  refine (c_EqualFunc _ _ _ _ _ _ _ _ _ HA.out HB.out).mono ?_
  rintro e w' ⟨rfl, n1, rfl⟩
  go_wp2
  go_ret
  exact ⟨rfl, same1 _ _⟩
theorem c_l02SameList (a b : Option Addr) (n c m d : Nat) (xs ys : List Nat) (w : World) (ha : FS w a n c xs) (hb : FS w b m d ys) :
    Calls Try.prog 159 #[.slice a n c, .slice b m d] w (RetB (sameL n m xs ys) w) := by
  have hbig : n ≤ 9223372036854775807 := Nat.le_trans ha.cap ha.big
  have hbig2 : m ≤ 9223372036854775807 := Nat.le_trans hb.cap hb.big
  have HA := Lib.hid ha.at_
  have HB := Lib.hid hb.at_
  clear ha hb
  by_cases hnm : n = m
  · subst hnm
    have e : sameL n n xs ys = sameTo xs ys n := by unfold sameL; rw [decide_eq_true rfl]; rfl
    rw [e]
    clear e hbig2
    go_enter Try.func159, Try.ntmps159
    go_wp2
    go_loopw [5] (fun i wr => ∃ k : Nat, k ≤ n ∧ i = .int .i64 k ∧ Hid (sameTo xs ys k = true) ∧ ∃ q, wr = w.drewN q) (fun i _ => n - (intOf i).toNat)
    case atStart => exact ⟨0, by omega, rfl, rfl, 0, rfl⟩
    case round =>
      obtain ⟨k, hk, rfl, hall, q, rfl⟩ := hrel
      by_cases hlt : k < n
      · obtain ⟨bl, o, rfl, hbl, hcell⟩ := HA.out (by omega)
        obtain ⟨bl2, o2, rfl, hbl2, hcell2⟩ := HB.out (by omega)
        have d1 := hcell k hlt
        have d2 := hcell2 k hlt
        clear HA HB hcell hcell2
        cases hf : sameB (nth xs k) (nth ys k)
        · have HU := Lib.hid (sameTo_false hf n hlt)
          have HS : Hid (∀ W, Calls Try.prog 145 #[.float .f32 (nth xs k), .float .f32 (nth ys k)] W (RetB false W)) := fun W => hf ▸ c_l01Same _ _ W
          clear hf
          go_wp2_with fail
          refine wp_region_sets' (by kernel_rfl) (by kernel_rfl) ?_
          apply Exists.intro
          iterate 8 (apply lx_want; kernel_rfl; (intro n; go_simp; exact ⟨OneV.mk _, _, (by first | rfl | exact congrArg _ (Nat.add_assoc _ _ _))⟩); rintro _ rfl)
          (apply lx_want; kernel_rfl; (intro n; go_simp; first | exact lx_callV (HS.out _) | exact lx_callV2 (HS.out _)); rintro _ rfl)
          (apply lx_want; kernel_rfl; (intro n; go_simp; exact ⟨OneV.mk _, _, (by first | rfl | exact congrArg _ (Nat.add_assoc _ _ _))⟩); rintro _ rfl)
          (refine lx_nil (Vl := []) ?_; intro n; simp only [Act.put, List.setIfInBounds_toArray, List.set_cons_succ, List.set_cons_zero])
          go_wp2
          go_ret
          exact ⟨by rw [HU.out]; rfl, (by first | exact same1 _ _ | exact ⟨_, by rw [World.drewN_drewN]⟩)⟩
        · have HU : Hid (sameTo xs ys (k + 1) = true) := by rw [sameTo, hall.out, hf]; rfl
          have HS : Hid (∀ W, Calls Try.prog 145 #[.float .f32 (nth xs k), .float .f32 (nth ys k)] W (RetB true W)) := fun W => hf ▸ c_l01Same _ _ W
          clear hf
          go_wp2_with fail
          refine wp_region_sets' (by kernel_rfl) (by kernel_rfl) ?_
          apply Exists.intro
          iterate 8 (apply lx_want; kernel_rfl; (intro n; go_simp; exact ⟨OneV.mk _, _, (by first | rfl | exact congrArg _ (Nat.add_assoc _ _ _))⟩); rintro _ rfl)
          (apply lx_want; kernel_rfl; (intro n; go_simp; first | exact lx_callV (HS.out _) | exact lx_callV2 (HS.out _)); rintro _ rfl)
          (apply lx_want; kernel_rfl; (intro n; go_simp; exact ⟨OneV.mk _, _, (by first | rfl | exact congrArg _ (Nat.add_assoc _ _ _))⟩); rintro _ rfl)
          (refine lx_nil (Vl := []) ?_; intro n; simp only [Act.put, List.setIfInBounds_toArray, List.set_cons_succ, List.set_cons_zero])
          go_wp2
          go_roundw
          case rel => exact ⟨k + 1, by omega, by go_num, HU, (by first | exact same1 _ _ | exact ⟨_, by rw [World.drewN_drewN]⟩)⟩
          case measure => simp [intOf]; omega
      · obtain rfl : k = n := by omega
        go_wp2
        go_ret
        exact ⟨by rw [hall.out]; rfl, (by first | exact same1 _ _ | exact ⟨_, by rw [World.drewN_drewN]⟩)⟩
  · have e : sameL n m xs ys = false := by unfold sameL; rw [decide_eq_false hnm]; rfl
    have hb : ((n : Int) == (m : Int)) = false := by simpa using (fun h => hnm (by omega))
    have hb' : ((n : Int) != (m : Int)) = true := by rw [bne, hb]; rfl
    rw [e]
    clear e HA HB hnm
    go_enter Try.func159, Try.ntmps159
    go_wp2
    go_ret
    exact ⟨rfl, same0 _⟩
end Go.Proofs.Ytfhegjjgfaeinaa
