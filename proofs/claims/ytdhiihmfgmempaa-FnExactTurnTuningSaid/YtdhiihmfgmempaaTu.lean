
/-
Contracts of tunings.
-/
import Derived.Test.YtdhiihmfgmempaaSm
namespace Go.Proofs.Ytdhiihmfgmempaa
open Go Go.RowKit Fl

def ltB (a b : Nat) : Bool := FloatKind.f32.format.order a b == some .lt
def gtB (a b : Nat) : Bool := FloatKind.f32.format.order a b == some .gt
def geB (a b : Nat) : Bool := FloatKind.f32.format.order a b == some .gt || FloatKind.f32.format.order a b == some .eq
def leB (a b : Nat) : Bool := FloatKind.f32.format.order a b == some .lt || FloatKind.f32.format.order a b == some .eq
def degB (xs : List Nat) (oc i : Nat) : Bool := ltB (nth xs i) oc && (decide (i = 0) || gtB (nth xs i) (nth xs (i - 1)))
def degTo (xs : List Nat) (oc : Nat) : Nat → Bool
  | 0 => true
  | k + 1 => degTo xs oc k && degB xs oc k
theorem degTo_false {xs : List Nat} {oc k : Nat} (h : degB xs oc k = false) : ∀ n, k < n → degTo xs oc n = false
  | n + 1, hk => by
    by_cases e : k = n
    · subst e; rw [degTo, h, Bool.and_false]
    · rw [degTo, degTo_false h n (by omega), Bool.false_and]
def tunB (b oc : Nat) (xs : List Nat) (n : Nat) : Bool := insB b 1065353216 1184645120 && insB oc 1065353216 1167458304 && inB n 1 31 && sameB (nth xs 0) 0 && degTo xs oc n
theorem c_isBase (a : Nat) (w : World) : Calls Try.prog 73 #[.float .f32 a] w (RetB (insB a 1065353216 1184645120) w) := by
  go_enter Try.func73, Try.ntmps73
  go_wp2_with (go_at_call 78; refine (c_inside _ _ _ _).mono ?_; rintro e w' ⟨rfl, n1, rfl⟩)
  go_ret
  exact ⟨rfl, same1 _ _⟩
theorem c_l07Base (a : Nat) (w : World) : Calls Try.prog 71 #[.float .f32 a] w (RetB (insB a 1065353216 1184645120) w) := by
  cases h : (FloatKind.f32.format.order a 1065353216 == some .gt || FloatKind.f32.format.order a 1065353216 == some .eq)
  all_goals
    go_enter Try.func71, Try.ntmps71
    go_wp2
    go_ret
    exact ⟨by simp [insB, h], same0 _⟩
theorem sameB_bits {a : Nat} {r : Bool} (h : sameB a 0 = r) : ((can .f32 a : Int) != 0) = !r := by
  unfold sameB at h
  rw [show (can .f32 0 : Nat) = 0 from by decide] at h
  rw [← h]
  rfl

theorem c_ValidTuning (b oc : Nat) (a : Option Addr) (n c : Nat) (xs : List Nat) (w : World) (h : FS w a n c xs) :
    Calls Try.prog 29 #[.agg #[.float .f32 b, .float .f32 oc, .slice a n c]] w (RetV (.bool (tunB b oc xs n)) w) := by
  have h' := h.alloc (.cells #[.float .f32 b, .float .f32 oc, .slice a n c] 31)
  have hbig : n ≤ 9223372036854775807 := Nat.le_trans h.cap h.big
  have HA := Lib.hid h'.at_
  clear h h'
  cases h1 : insB b 1065353216 1184645120
  · have e : tunB b oc xs n = false := by unfold tunB; rw [h1]; rfl
    rw [e]
    clear e HA
    have h1' := Lib.hid h1
    go_enter Try.func29, Try.ntmps29
    go_wp2_with (go_at_call 73; refine (c_isBase _ _).mono ?_; rintro e w' ⟨rfl, n1, rfl⟩)
    go_ret
    exact ⟨rfl, by (repeat (first | (with_reducible refine Below.drewN ?_) | (with_reducible refine Below.drew ?_) | ((with_reducible refine Below.alloc ?_ ?_ _); rotate_left; (first | omega | (simp <;> omega))) | ((with_reducible refine Below.setCell ?_ ?_ _); rotate_left; (first | omega | (simp <;> omega))) | (with_reducible exact Below.refl _ _) | (with_reducible assumption)))⟩
  cases h2 : insB oc 1065353216 1167458304
  · have e : tunB b oc xs n = false := by unfold tunB; rw [h1, h2]; rfl
    rw [e]
    clear e HA
    go_enter Try.func29, Try.ntmps29
    go_wp2_with (first | (go_at_call 73; refine (c_isBase _ _).mono ?_; rintro e w' ⟨rfl, n1, rfl⟩) | (go_at_call 78; refine (c_inside _ _ _ _).mono ?_; rintro e w' ⟨rfl, n1, rfl⟩))
    go_ret
    exact ⟨rfl, by (repeat (first | (with_reducible refine Below.drewN ?_) | (with_reducible refine Below.drew ?_) | ((with_reducible refine Below.alloc ?_ ?_ _); rotate_left; (first | omega | (simp <;> omega))) | ((with_reducible refine Below.setCell ?_ ?_ _); rotate_left; (first | omega | (simp <;> omega))) | (with_reducible exact Below.refl _ _) | (with_reducible assumption)))⟩
  cases h3 : inB n 1 31
  · have e : tunB b oc xs n = false := by unfold tunB; rw [h1, h2, h3]; rfl
    rw [e]
    clear e HA
    go_enter Try.func29, Try.ntmps29
    go_wp2_with (first | (go_at_call 73; refine (c_isBase _ _).mono ?_; rintro e w' ⟨rfl, n1, rfl⟩) | (go_at_call 78; refine (c_inside _ _ _ _).mono ?_; rintro e w' ⟨rfl, n1, rfl⟩) | (go_at_call 79; refine (c_length _ _ _ _).mono ?_; rintro e w' ⟨rfl, rfl⟩) | (go_at_call 74; refine (c_within _ _ _ _).mono ?_; rintro e w' ⟨rfl, n1, rfl⟩))
    go_ret
    exact ⟨rfl, by (repeat (first | (with_reducible refine Below.drewN ?_) | (with_reducible refine Below.drew ?_) | ((with_reducible refine Below.alloc ?_ ?_ _); rotate_left; (first | omega | (simp <;> omega))) | ((with_reducible refine Below.setCell ?_ ?_ _); rotate_left; (first | omega | (simp <;> omega))) | (with_reducible exact Below.refl _ _) | (with_reducible assumption)))⟩
  have hn := inB_yes h3
  obtain ⟨bl, o, rfl, hbl, hcell⟩ := HA.out (by omega)
  have hc0 := hcell 0 (by omega)
  rw [Nat.add_zero] at hc0
  have HC := Lib.hid hcell
  clear hcell HA
  cases h4 : sameB (nth xs 0) 0
  · have e : tunB b oc xs n = false := by unfold tunB; rw [h1, h2, h3, h4]; rfl
    have hs := sameB_bits h4
    rw [e]
    clear e HC h4
    go_enter Try.func29, Try.ntmps29
    go_wp2_with (first | (go_at_call 73; refine (c_isBase _ _).mono ?_; rintro e w' ⟨rfl, n1, rfl⟩) | (go_at_call 78; refine (c_inside _ _ _ _).mono ?_; rintro e w' ⟨rfl, n1, rfl⟩) | (go_at_call 79; refine (c_length _ _ _ _).mono ?_; rintro e w' ⟨rfl, rfl⟩) | (go_at_call 74; refine (c_within _ _ _ _).mono ?_; rintro e w' ⟨rfl, n1, rfl⟩) | (go_at_call 80; refine (c_bitsOf _ _).mono ?_; rintro e w' ⟨rfl, n1, rfl⟩))
    go_ret
    exact ⟨rfl, by (repeat (first | (with_reducible refine Below.drewN ?_) | (with_reducible refine Below.drew ?_) | ((with_reducible refine Below.alloc ?_ ?_ _); rotate_left; (first | omega | (simp <;> omega))) | ((with_reducible refine Below.setCell ?_ ?_ _); rotate_left; (first | omega | (simp <;> omega))) | (with_reducible exact Below.refl _ _) | (with_reducible assumption)))⟩
  have e : tunB b oc xs n = degTo xs oc n := by unfold tunB; rw [h1, h2, h3, h4]; rfl
  have hs := sameB_bits h4
  rw [e]
  clear e h4
  go_enter Try.func29, Try.ntmps29
  go_wp2_with (first | (go_at_call 73; refine (c_isBase _ _).mono ?_; rintro e w' ⟨rfl, n1, rfl⟩) | (go_at_call 78; refine (c_inside _ _ _ _).mono ?_; rintro e w' ⟨rfl, n1, rfl⟩) | (go_at_call 79; refine (c_length _ _ _ _).mono ?_; rintro e w' ⟨rfl, rfl⟩) | (go_at_call 74; refine (c_within _ _ _ _).mono ?_; rintro e w' ⟨rfl, n1, rfl⟩) | (go_at_call 80; refine (c_bitsOf _ _).mono ?_; rintro e w' ⟨rfl, n1, rfl⟩))
  clear h1 h2 h3 hs hc0
  go_loopw [33] (fun i wr => ∃ k : Nat, k ≤ n ∧ i = .int .i64 k ∧ Hid (degTo xs oc k = true) ∧ ∃ q, wr = (w.alloc (.cells #[.float .f32 b, .float .f32 oc, .slice (some ⟨bl, o, none⟩) n c] 31)).drewN q) (fun i _ => n - (intOf i).toNat)
  case atStart => exact ⟨0, by omega, rfl, rfl, _, rfl⟩
  case round =>
    obtain ⟨k, hk, rfl, hall, q, rfl⟩ := hrel
    by_cases hlt : k < n
    · have hc := HC.out k hlt
      cases hd1 : (FloatKind.f32.format.order (nth xs k) oc == some .lt)
      · have hu : degB xs oc k = false := by unfold degB ltB; rw [hd1]; rfl
        have HU := Lib.hid (degTo_false hu n hlt)
        clear hu
        go_wp2
        go_ret
        exact ⟨by rw [HU.out]; rfl, by (repeat (first | (with_reducible refine Below.drewN ?_) | (with_reducible refine Below.drew ?_) | ((with_reducible refine Below.alloc ?_ ?_ _); rotate_left; (first | omega | (simp <;> omega))) | ((with_reducible refine Below.setCell ?_ ?_ _); rotate_left; (first | omega | (simp <;> omega))) | (with_reducible exact Below.refl _ _) | (with_reducible assumption)))⟩
      by_cases hk0 : k = 0
      · have hu : degB xs oc k = true := by unfold degB ltB; rw [hd1, hk0]; rfl
        have HU : Hid (degTo xs oc (k + 1) = true) := by rw [degTo, hall.out, hu]; rfl
        have hk1 : k < 1 := by omega
        clear hu hk0
        go_wp2
        go_roundw
        case rel => exact ⟨k + 1, by omega, by go_num, HU, _, rfl⟩
        case measure => simp [intOf]; omega
      obtain ⟨j, rfl⟩ := Nat.exists_eq_succ_of_ne_zero hk0
      have hcj := HC.out j (by omega)
      cases hd2 : (FloatKind.f32.format.order (nth xs (j + 1)) (nth xs j) == some .gt)
      · have hu : degB xs oc (j + 1) = false := by unfold degB ltB gtB; rw [hd1, Nat.add_sub_cancel, hd2]; simp
        have HU := Lib.hid (degTo_false hu n hlt)
        clear hu
        go_wp2
        go_ret
        exact ⟨by rw [HU.out]; rfl, by (repeat (first | (with_reducible refine Below.drewN ?_) | (with_reducible refine Below.drew ?_) | ((with_reducible refine Below.alloc ?_ ?_ _); rotate_left; (first | omega | (simp <;> omega))) | ((with_reducible refine Below.setCell ?_ ?_ _); rotate_left; (first | omega | (simp <;> omega))) | (with_reducible exact Below.refl _ _) | (with_reducible assumption)))⟩
      · have hu : degB xs oc (j + 1) = true := by unfold degB ltB gtB; rw [hd1, Nat.add_sub_cancel, hd2]; simp
        have HU : Hid (degTo xs oc (j + 1 + 1) = true) := by rw [degTo, hall.out, hu]; rfl
        clear hu
        go_wp2
        go_roundw
        case rel => exact ⟨j + 1 + 1, by omega, by go_num, HU, _, rfl⟩
        case measure => simp [intOf]; omega
    · obtain rfl : k = n := by omega
      go_wp2
      go_ret
      exact ⟨by rw [hall.out]; rfl, by (repeat (first | (with_reducible refine Below.drewN ?_) | (with_reducible refine Below.drew ?_) | ((with_reducible refine Below.alloc ?_ ?_ _); rotate_left; (first | omega | (simp <;> omega))) | ((with_reducible refine Below.setCell ?_ ?_ _); rotate_left; (first | omega | (simp <;> omega))) | (with_reducible exact Below.refl _ _) | (with_reducible assumption)))⟩
end Go.Proofs.Ytdhiihmfgmempaa
