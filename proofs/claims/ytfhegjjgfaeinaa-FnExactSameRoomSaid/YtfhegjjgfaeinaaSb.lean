
/-
Contracts of the tests whether rings and filters are the same.
-/
import Derived.Test.YtfhegjjgfaeinaaSm
import Derived.Test.YtfhegjjgfaeinaaDg
namespace Go.Proofs.Ytfhegjjgfaeinaa
open Go Go.RowKit Fl
def sameR (n : Nat) (i : Int) (xs : List Nat) (m : Nat) (j : Int) (ys : List Nat) : Bool := sameL n m xs ys && (i == j)
theorem c_SameRing (a : Option Addr) (n c : Nat) (xs : List Nat) (i : Int) (b : Option Addr) (m d : Nat) (ys : List Nat) (j : Int) (w : World) (ha : FS w a n c xs) (hb : FS w b m d ys) :
    Calls Try.prog 105 #[.agg #[.slice a n c, .int .i64 i], .agg #[.slice b m d, .int .i64 j]] w (RetV (.bool (sameR n i xs m j ys)) w) := by
  have K : Hid (∀ W, Below w.heap.size w W → Calls Try.prog 149 #[.slice a n c, .slice b m d] W (RetB (sameL n m xs ys) W)) := fun W hW => c_sameSamples _ _ _ _ _ _ _ _ W (ha.below hW (Nat.le_refl _)) (hb.below hW (Nat.le_refl _))
  clear ha hb
  unfold sameR
  cases h : sameL n m xs ys
  all_goals
    rw [h] at K
    clear h
    go_enter Try.func105, Try.ntmps105
    go_wp2_with (go_at_call 149; refine (K.out _ (by (repeat (first | (with_reducible refine Below.drewN ?_) | (with_reducible refine Below.drew ?_) | ((with_reducible refine Below.alloc ?_ ?_ _); rotate_left; (first | omega | (simp <;> omega))) | ((with_reducible refine Below.setCell ?_ ?_ _); rotate_left; (first | omega | (simp <;> omega))) | (with_reducible exact Below.refl _ _) | (with_reducible assumption))))).mono ?_; rintro e w' ⟨rfl, n1, rfl⟩)
    go_ret
    exact ⟨by first | rfl | simp, by (repeat (first | (with_reducible refine Below.drewN ?_) | (with_reducible refine Below.drew ?_) | ((with_reducible refine Below.alloc ?_ ?_ _); rotate_left; (first | omega | (simp <;> omega))) | ((with_reducible refine Below.setCell ?_ ?_ _); rotate_left; (first | omega | (simp <;> omega))) | (with_reducible exact Below.refl _ _) | (with_reducible assumption)))⟩
def sameF (k : Int) (cs ss : List Nat) (k' : Int) (ds ts : List Nat) : Bool := (k == k') && (sameTo cs ds 3 && sameTo ss ts 2)
theorem sameL_len (n : Nat) (xs ys : List Nat) : sameL n n xs ys = sameTo xs ys n := by unfold sameL; rw [decide_eq_true rfl]; rfl
theorem c_SameFilter (k : Int) (c0 c1 c2 s0 s1 : Nat) (k' : Int) (d0 d1 d2 t0 t1 : Nat) (w : World) :
    Calls Try.prog 107 #[.agg #[.int .i64 k, .float .f32 c0, .float .f32 c1, .float .f32 c2, .float .f32 s0, .float .f32 s1], .agg #[.int .i64 k', .float .f32 d0, .float .f32 d1, .float .f32 d2, .float .f32 t0, .float .f32 t1]] w (RetV (.bool (sameF k [c0, c1, c2] [s0, s1] k' [d0, d1, d2] [t0, t1])) w) := by
  have K1 : Hid (∀ n, Calls Try.prog 149 #[.slice (some ⟨w.heap.size, 1, none⟩) 3 3, .slice (some ⟨w.heap.size + 1, 1, none⟩) 3 3] (((w.alloc (.cells #[.int .i64 k, .float .f32 c0, .float .f32 c1, .float .f32 c2, .float .f32 s0, .float .f32 s1] 34)).alloc (.cells #[.int .i64 k', .float .f32 d0, .float .f32 d1, .float .f32 d2, .float .f32 t0, .float .f32 t1] 34)).drewN n) (RetB (sameTo [c0, c1, c2] [d0, d1, d2] 3) (((w.alloc (.cells #[.int .i64 k, .float .f32 c0, .float .f32 c1, .float .f32 c2, .float .f32 s0, .float .f32 s1] 34)).alloc (.cells #[.int .i64 k', .float .f32 d0, .float .f32 d1, .float .f32 d2, .float .f32 t0, .float .f32 t1] 34)).drewN n))) := fun n => by
    rw [← sameL_len]
    exact c_sameSamples _ _ _ _ _ _ _ _ _ (FS.box (xs := [c0, c1, c2]) (by simp; omega) (by simp) (by omega) (three _ (by simp [nth]) (by simp [nth]) (by simp [nth]))) (FS.box (xs := [d0, d1, d2]) (by simp) (by simp) (by omega) (three _ (by simp [nth]) (by simp [nth]) (by simp [nth])))
  have K2 : Hid (∀ n, Calls Try.prog 149 #[.slice (some ⟨w.heap.size, 4, none⟩) 2 2, .slice (some ⟨w.heap.size + 1, 4, none⟩) 2 2] (((w.alloc (.cells #[.int .i64 k, .float .f32 c0, .float .f32 c1, .float .f32 c2, .float .f32 s0, .float .f32 s1] 34)).alloc (.cells #[.int .i64 k', .float .f32 d0, .float .f32 d1, .float .f32 d2, .float .f32 t0, .float .f32 t1] 34)).drewN n) (RetB (sameTo [s0, s1] [t0, t1] 2) (((w.alloc (.cells #[.int .i64 k, .float .f32 c0, .float .f32 c1, .float .f32 c2, .float .f32 s0, .float .f32 s1] 34)).alloc (.cells #[.int .i64 k', .float .f32 d0, .float .f32 d1, .float .f32 d2, .float .f32 t0, .float .f32 t1] 34)).drewN n))) := fun n => by
    rw [← sameL_len]
    exact c_sameSamples _ _ _ _ _ _ _ _ _ (FS.box (xs := [s0, s1]) (by simp; omega) (by simp) (by omega) (two _ (by simp [nth]) (by simp [nth]))) (FS.box (xs := [t0, t1]) (by simp) (by simp) (by omega) (two _ (by simp [nth]) (by simp [nth])))
  unfold sameF
  cases hk : (k == k')
  · rw [Bool.false_and]
    clear K1 K2
    go_enter Try.func107, Try.ntmps107
    go_wp2
    refine wp_region_sets' (by kernel_rfl) (by kernel_rfl) ?_
    apply Exists.intro
    iterate 6 (apply lx_want; kernel_rfl; (intro n; go_simp; exact ⟨OneV.mk _, _, (by first | rfl | exact congrArg _ (Nat.add_assoc _ _ _))⟩); rintro _ rfl)
    iterate 5 (apply lx_skip; kernel_rfl)
    iterate 2 (apply lx_want; kernel_rfl; (intro n; go_simp; exact ⟨OneV.mk _, _, (by first | rfl | exact congrArg _ (Nat.add_assoc _ _ _))⟩); rintro _ rfl)
    iterate 5 (apply lx_skip; kernel_rfl)
    iterate 2 (apply lx_want; kernel_rfl; (intro n; go_simp; exact ⟨OneV.mk _, _, (by first | rfl | exact congrArg _ (Nat.add_assoc _ _ _))⟩); rintro _ rfl)
    (refine lx_nil (Vl := []) ?_; intro n; simp only [Act.put, List.setIfInBounds_toArray, List.set_cons_succ, List.set_cons_zero])
    go_wp2
    go_ret
    exact ⟨rfl, by (repeat (first | (with_reducible refine Below.drewN ?_) | (with_reducible refine Below.drew ?_) | ((with_reducible refine Below.alloc ?_ ?_ _); rotate_left; (first | omega | (simp <;> omega))) | ((with_reducible refine Below.setCell ?_ ?_ _); rotate_left; (first | omega | (simp <;> omega))) | (with_reducible exact Below.refl _ _) | (with_reducible assumption)))⟩
  rw [Bool.true_and]
  cases hc : sameTo [c0, c1, c2] [d0, d1, d2] 3
  · rw [Bool.false_and]
    rw [hc] at K1
    clear hc K2
    go_enter Try.func107, Try.ntmps107
    go_wp2
    refine wp_region_sets' (by kernel_rfl) (by kernel_rfl) ?_
    apply Exists.intro
    iterate 10 (apply lx_want; kernel_rfl; (intro n; go_simp; exact ⟨OneV.mk _, _, (by first | rfl | exact congrArg _ (Nat.add_assoc _ _ _))⟩); rintro _ rfl)
    (apply lx_want; kernel_rfl; (intro n; go_simp; first | exact lx_callV (K1.out _) | exact lx_callV2 (K1.out _)); rintro _ rfl)
    iterate 2 (apply lx_want; kernel_rfl; (intro n; go_simp; exact ⟨OneV.mk _, _, (by first | rfl | exact congrArg _ (Nat.add_assoc _ _ _))⟩); rintro _ rfl)
    iterate 5 (apply lx_skip; kernel_rfl)
    iterate 2 (apply lx_want; kernel_rfl; (intro n; go_simp; exact ⟨OneV.mk _, _, (by first | rfl | exact congrArg _ (Nat.add_assoc _ _ _))⟩); rintro _ rfl)
    (refine lx_nil (Vl := []) ?_; intro n; simp only [Act.put, List.setIfInBounds_toArray, List.set_cons_succ, List.set_cons_zero])
    go_wp2
    go_ret
    exact ⟨rfl, by (repeat (first | (with_reducible refine Below.drewN ?_) | (with_reducible refine Below.drew ?_) | ((with_reducible refine Below.alloc ?_ ?_ _); rotate_left; (first | omega | (simp <;> omega))) | ((with_reducible refine Below.setCell ?_ ?_ _); rotate_left; (first | omega | (simp <;> omega))) | (with_reducible exact Below.refl _ _) | (with_reducible assumption)))⟩
  · rw [Bool.true_and]
    rw [hc] at K1
    clear hc
    go_enter Try.func107, Try.ntmps107
    go_wp2
    refine wp_region_sets' (by kernel_rfl) (by kernel_rfl) ?_
    apply Exists.intro
    iterate 10 (apply lx_want; kernel_rfl; (intro n; go_simp; exact ⟨OneV.mk _, _, (by first | rfl | exact congrArg _ (Nat.add_assoc _ _ _))⟩); rintro _ rfl)
    (apply lx_want; kernel_rfl; (intro n; go_simp; first | exact lx_callV (K1.out _) | exact lx_callV2 (K1.out _)); rintro _ rfl)
    iterate 6 (apply lx_want; kernel_rfl; (intro n; go_simp; exact ⟨OneV.mk _, _, (by first | rfl | exact congrArg _ (Nat.add_assoc _ _ _))⟩); rintro _ rfl)
    (apply lx_want; kernel_rfl; (intro n; go_simp; first | exact lx_callV (K2.out _) | exact lx_callV2 (K2.out _)); rintro _ rfl)
    iterate 2 (apply lx_want; kernel_rfl; (intro n; go_simp; exact ⟨OneV.mk _, _, (by first | rfl | exact congrArg _ (Nat.add_assoc _ _ _))⟩); rintro _ rfl)
    (refine lx_nil (Vl := []) ?_; intro n; simp only [Act.put, List.setIfInBounds_toArray, List.set_cons_succ, List.set_cons_zero])
    go_wp2
    go_ret
    exact ⟨rfl, by (repeat (first | (with_reducible refine Below.drewN ?_) | (with_reducible refine Below.drew ?_) | ((with_reducible refine Below.alloc ?_ ?_ _); rotate_left; (first | omega | (simp <;> omega))) | ((with_reducible refine Below.setCell ?_ ?_ _); rotate_left; (first | omega | (simp <;> omega))) | (with_reducible exact Below.refl _ _) | (with_reducible assumption)))⟩
theorem c_l02Same (b o b2 o2 : Nat) (k : Int) (cs ss : List Nat) (k' : Int) (ds ts : List Nat) (w : World) (h0 : w.cell? ⟨b, o, none⟩ = some (.int .i64 k))
    (hc : ∀ i, i < 3 → w.cell? ⟨b, o + 1 + i, none⟩ = some (.float .f32 (nth cs i))) (hs : ∀ i, i < 2 → w.cell? ⟨b, o + 4 + i, none⟩ = some (.float .f32 (nth ss i))) (j0 : w.cell? ⟨b2, o2, none⟩ = some (.int .i64 k'))
    (jc : ∀ i, i < 3 → w.cell? ⟨b2, o2 + 1 + i, none⟩ = some (.float .f32 (nth ds i))) (js : ∀ i, i < 2 → w.cell? ⟨b2, o2 + 4 + i, none⟩ = some (.float .f32 (nth ts i))) :
    Calls Try.prog 146 #[.pointer (some ⟨b, o, none⟩), .pointer (some ⟨b2, o2, none⟩)] w (RetB (sameF k cs ss k' ds ts) w) := by
  have s0 := hs 0 (by omega)
  have s1 := hs 1 (by omega)
  have u0 := js 0 (by omega)
  have u1 := js 1 (by omega)
  rw [Nat.add_zero] at s0 u0
  have HC := Lib.hid hc
  have JC := Lib.hid jc
  clear hc jc hs js
  unfold sameF
  cases hk : (k == k')
  · rw [Bool.false_and]
    have hk' : (k != k') = true := by rw [bne, hk]; rfl
    clear HC JC s0 s1 u0 u1
    go_enter Try.func146, Try.ntmps146
    go_wp2
    refine wp_region_sets' (by kernel_rfl) (by kernel_rfl) ?_
    apply Exists.intro
    iterate 9 (apply lx_want; kernel_rfl; (intro n; go_simp; exact ⟨OneV.mk _, _, (by first | rfl | exact congrArg _ (Nat.add_assoc _ _ _))⟩); rintro _ rfl)
    (refine lx_nil (Vl := []) ?_; intro n; simp only [Act.put, List.setIfInBounds_toArray, List.set_cons_succ, List.set_cons_zero])
    go_wp2
    go_ret
    exact ⟨rfl, (by first | exact same1 _ _ | exact same0 _ | exact ⟨_, by rw [World.drewN_drewN]⟩)⟩
  rw [Bool.true_and]
  have hk' : (k != k') = false := by rw [bne, hk]; rfl
  go_enter Try.func146, Try.ntmps146
  go_wp2
  refine wp_region_sets' (by kernel_rfl) (by kernel_rfl) ?_
  apply Exists.intro
  iterate 9 (apply lx_want; kernel_rfl; (intro n; go_simp; exact ⟨OneV.mk _, _, (by first | rfl | exact congrArg _ (Nat.add_assoc _ _ _))⟩); rintro _ rfl)
  (refine lx_nil (Vl := []) ?_; intro n; simp only [Act.put, List.setIfInBounds_toArray, List.set_cons_succ, List.set_cons_zero])
  go_wp2
  clear hk hk'
  go_loopw [5] (fun i wr => ∃ j : Nat, j ≤ 3 ∧ i = .int .i64 j ∧ Hid (sameTo cs ds j = true) ∧ ∃ q, wr = w.drewN q) (fun i _ => 3 - (intOf i).toNat)
  case atStart => exact ⟨0, by omega, rfl, rfl, by first | exact ⟨0, rfl⟩ | exact same1 _ _⟩
  case round =>
    obtain ⟨j, hj, rfl, hall, q, rfl⟩ := hrel
    by_cases hlt : j < 3
    · have d1 := HC.out j hlt
      have d2 := JC.out j hlt
      clear s0 s1 u0 u1
      cases hf : sameB (nth cs j) (nth ds j)
      · have HU : Hid ((sameTo cs ds 3 && sameTo ss ts 2) = false) := by rw [sameTo_false hf 3 hlt, Bool.false_and]; rfl
        have HS : Hid (∀ W, Calls Try.prog 145 #[.float .f32 (nth cs j), .float .f32 (nth ds j)] W (RetB false W)) := fun W => hf ▸ c_l01Same _ _ W
        clear hf
        go_wp2_with fail
        refine wp_region_sets' (by kernel_rfl) (by kernel_rfl) ?_
        apply Exists.intro
        iterate 12 (apply lx_want; kernel_rfl; (intro n; go_simp; exact ⟨OneV.mk _, _, (by first | rfl | exact congrArg _ (Nat.add_assoc _ _ _))⟩); rintro _ rfl)
        (apply lx_want; kernel_rfl; (intro n; go_simp; first | exact lx_callV (HS.out _) | exact lx_callV2 (HS.out _)); rintro _ rfl)
        (apply lx_want; kernel_rfl; (intro n; go_simp; exact ⟨OneV.mk _, _, (by first | rfl | exact congrArg _ (Nat.add_assoc _ _ _))⟩); rintro _ rfl)
        (refine lx_nil (Vl := []) ?_; intro n; simp only [Act.put, List.setIfInBounds_toArray, List.set_cons_succ, List.set_cons_zero])
        go_wp2
        go_ret
        exact ⟨by rw [HU.out]; rfl, (by first | exact same1 _ _ | exact same0 _ | exact ⟨_, by rw [World.drewN_drewN]⟩)⟩
      · have HU : Hid (sameTo cs ds (j + 1) = true) := by rw [sameTo, hall.out, hf]; rfl
        have HS : Hid (∀ W, Calls Try.prog 145 #[.float .f32 (nth cs j), .float .f32 (nth ds j)] W (RetB true W)) := fun W => hf ▸ c_l01Same _ _ W
        clear hf
        go_wp2_with fail
        refine wp_region_sets' (by kernel_rfl) (by kernel_rfl) ?_
        apply Exists.intro
        iterate 12 (apply lx_want; kernel_rfl; (intro n; go_simp; exact ⟨OneV.mk _, _, (by first | rfl | exact congrArg _ (Nat.add_assoc _ _ _))⟩); rintro _ rfl)
        (apply lx_want; kernel_rfl; (intro n; go_simp; first | exact lx_callV (HS.out _) | exact lx_callV2 (HS.out _)); rintro _ rfl)
        (apply lx_want; kernel_rfl; (intro n; go_simp; exact ⟨OneV.mk _, _, (by first | rfl | exact congrArg _ (Nat.add_assoc _ _ _))⟩); rintro _ rfl)
        (refine lx_nil (Vl := []) ?_; intro n; simp only [Act.put, List.setIfInBounds_toArray, List.set_cons_succ, List.set_cons_zero])
        go_wp2
        go_roundw
        case rel => first | exact ⟨j + 1, by omega, by go_num, HU, (by first | exact same1 _ _ | exact same0 _ | exact ⟨_, by rw [World.drewN_drewN]⟩)⟩ | ((repeat apply Exists.intro); exact ⟨⟨j + 1, by omega, by go_num, HU, (by first | exact same1 _ _ | exact same0 _ | exact ⟨_, by rw [World.drewN_drewN]⟩)⟩, rfl⟩)
        case measure => simp [intOf]; omega
    · obtain rfl : j = 3 := by omega
      clear HC JC
      have E : Hid ((sameTo cs ds 3 && sameTo ss ts 2) = (sameB (nth ss 0) (nth ts 0) && sameB (nth ss 1) (nth ts 1))) := by show _ = _; rw [hall.out]; simp [sameTo]
      cases hz : sameB (nth ss 0) (nth ts 0)
      · rw [hz] at E
        have HS : Hid (∀ W, Calls Try.prog 145 #[.float .f32 (nth ss 0), .float .f32 (nth ts 0)] W (RetB false W)) := fun W => hz ▸ c_l01Same _ _ W
        clear hz
        go_wp2_with fail
        refine wp_region_sets' (by kernel_rfl) (by kernel_rfl) ?_
        apply Exists.intro
        iterate 10 (apply lx_want; kernel_rfl; (intro n; go_simp; exact ⟨OneV.mk _, _, (by first | rfl | exact congrArg _ (Nat.add_assoc _ _ _))⟩); rintro _ rfl)
        (apply lx_want; kernel_rfl; (intro n; go_simp; first | exact lx_callV (HS.out _) | exact lx_callV2 (HS.out _)); rintro _ rfl)
        (apply lx_want; kernel_rfl; (intro n; go_simp; exact ⟨OneV.mk _, _, (by first | rfl | exact congrArg _ (Nat.add_assoc _ _ _))⟩); rintro _ rfl)
        iterate 11 (apply lx_skip; kernel_rfl)
        iterate 2 (apply lx_want; kernel_rfl; (intro n; go_simp; exact ⟨OneV.mk _, _, (by first | rfl | exact congrArg _ (Nat.add_assoc _ _ _))⟩); rintro _ rfl)
        (refine lx_nil (Vl := []) ?_; intro n; simp only [Act.put, List.setIfInBounds_toArray, List.set_cons_succ, List.set_cons_zero])
        go_wp2
        go_ret
        exact ⟨by rw [E.out]; rfl, (by first | exact same1 _ _ | exact same0 _ | exact ⟨_, by rw [World.drewN_drewN]⟩)⟩
      · rw [hz] at E
        have HS : Hid (∀ W, Calls Try.prog 145 #[.float .f32 (nth ss 0), .float .f32 (nth ts 0)] W (RetB true W)) := fun W => hz ▸ c_l01Same _ _ W
        clear hz
        go_wp2_with fail
        refine wp_region_sets' (by kernel_rfl) (by kernel_rfl) ?_
        apply Exists.intro
        iterate 10 (apply lx_want; kernel_rfl; (intro n; go_simp; exact ⟨OneV.mk _, _, (by first | rfl | exact congrArg _ (Nat.add_assoc _ _ _))⟩); rintro _ rfl)
        (apply lx_want; kernel_rfl; (intro n; go_simp; first | exact lx_callV (HS.out _) | exact lx_callV2 (HS.out _)); rintro _ rfl)
        iterate 11 (apply lx_want; kernel_rfl; (intro n; go_simp; exact ⟨OneV.mk _, _, (by first | rfl | exact congrArg _ (Nat.add_assoc _ _ _))⟩); rintro _ rfl)
        (apply lx_want; kernel_rfl; (intro n; go_simp; first | exact lx_callV (c_l01Same _ _ _) | exact lx_callV2 (c_l01Same _ _ _)); rintro _ rfl)
        iterate 2 (apply lx_want; kernel_rfl; (intro n; go_simp; exact ⟨OneV.mk _, _, (by first | rfl | exact congrArg _ (Nat.add_assoc _ _ _))⟩); rintro _ rfl)
        (refine lx_nil (Vl := []) ?_; intro n; simp only [Act.put, List.setIfInBounds_toArray, List.set_cons_succ, List.set_cons_zero])
        go_wp2
        go_ret
        exact ⟨by rw [E.out]; simp, (by first | exact same1 _ _ | exact same0 _ | exact ⟨_, by rw [World.drewN_drewN]⟩)⟩
/-- the first k rings are the same -/
def rgsSame (rs ss : List Rg) : Nat → Bool
  | 0 => true
  | k + 1 => rgsSame rs ss k && sameR (rat rs k).n (rat rs k).i (rat rs k).xs (rat ss k).n (rat ss k).i (rat ss k).xs
theorem rgsSame_false {rs ss : List Rg} {k : Nat} (h : sameR (rat rs k).n (rat rs k).i (rat rs k).xs (rat ss k).n (rat ss k).i (rat ss k).xs = false) : ∀ n, k < n → rgsSame rs ss n = false
  | n + 1, hk => by
    by_cases e : k = n
    · subst e; rw [rgsSame, h, Bool.and_false]
    · rw [rgsSame, rgsSame_false h n (by omega), Bool.false_and]
theorem c_l04SameRings (b o b2 o2 : Nat) (rs ss : List Rg) (n c d : Nat) (w : World) (hs : n ≤ 1048576) (h : ∀ j, j < n → RAt w b (o + j * 2) (rat rs j)) (h' : ∀ j, j < n → RAt w b2 (o2 + j * 2) (rat ss j)) :
    Calls Try.prog 142 #[.slice (some ⟨b, o, none⟩) n c, .slice (some ⟨b2, o2, none⟩) n d] w (RetB (rgsSame rs ss n) w) := by
  have HA := Lib.hid h
  have HB := Lib.hid h'
  clear h h'
  go_enter Try.func142, Try.ntmps142
  go_wp2
  go_loopw [5] (fun i wr => ∃ k : Nat, k ≤ n ∧ i = .int .i64 k ∧ Hid (rgsSame rs ss k = true) ∧ ∃ q, wr = w.drewN q) (fun i _ => n - (intOf i).toNat)
  case atStart => exact ⟨0, by omega, rfl, rfl, by first | exact ⟨0, rfl⟩ | exact same1 _ _⟩
  case round =>
    obtain ⟨k, hk, rfl, hall, q, rfl⟩ := hrel
    by_cases hlt : k < n
    · have hr := HA.out k hlt
      have hr2 := HB.out k hlt
      have HF : Hid (∀ m, Calls Try.prog 159 #[.slice (rat rs k).a (rat rs k).n (rat rs k).c, .slice (rat ss k).a (rat ss k).n (rat ss k).c] (w.drewN m) (RetB (sameL (rat rs k).n (rat ss k).n (rat rs k).xs (rat ss k).xs) (w.drewN m))) := fun m => c_l02SameList _ _ _ _ _ _ _ _ _ hr.fs.draw hr2.fs.draw
      have e0 : sameR (rat rs k).n (rat rs k).i (rat rs k).xs (rat ss k).n (rat ss k).i (rat ss k).xs = (sameL (rat rs k).n (rat ss k).n (rat rs k).xs (rat ss k).xs && ((rat rs k).i == (rat ss k).i)) := rfl
      have hc0 := hr.c0
      have hc1 := hr.c1
      have hd0 := hr2.c0
      have hd1 := hr2.c1
      clear hr hr2
      cases h1 : ((rat rs k).i == (rat ss k).i)
      · have HU : Hid (rgsSame rs ss n = false) := rgsSame_false (by rw [e0, h1, Bool.and_false]) n hlt
        have h1' : ((rat rs k).i != (rat ss k).i) = true := by rw [bne, h1]; rfl
        clear e0 h1 HF
        go_wp2
        refine wp_region_sets' (by kernel_rfl) (by kernel_rfl) ?_
        apply Exists.intro
        iterate 12 (apply lx_want; kernel_rfl; (intro n; go_simp; exact ⟨OneV.mk _, _, (by first | rfl | exact congrArg _ (Nat.add_assoc _ _ _))⟩); rintro _ rfl)
        iterate 12 (apply lx_skip; kernel_rfl)
        (apply lx_want; kernel_rfl; (intro n; go_simp; exact ⟨OneV.mk _, _, (by first | rfl | exact congrArg _ (Nat.add_assoc _ _ _))⟩); rintro _ rfl)
        (refine lx_nil (Vl := []) ?_; intro n; simp only [Act.put, List.setIfInBounds_toArray, List.set_cons_succ, List.set_cons_zero])
        go_wp2
        go_ret
        exact ⟨by rw [HU.out]; rfl, (by first | exact same1 _ _ | exact same0 _ | exact ⟨_, by rw [World.drewN_drewN]⟩)⟩
      · have h1' : ((rat rs k).i != (rat ss k).i) = false := by rw [bne, h1]; rfl
        cases h2 : sameL (rat rs k).n (rat ss k).n (rat rs k).xs (rat ss k).xs
        · rw [h2] at HF
          have HU : Hid (rgsSame rs ss n = false) := rgsSame_false (by rw [e0, h2]; rfl) n hlt
          clear e0 h1 h2
          go_wp2_with fail
          refine wp_region_sets' (by kernel_rfl) (by kernel_rfl) ?_
          apply Exists.intro
          iterate 22 (apply lx_want; kernel_rfl; (intro n; go_simp; exact ⟨OneV.mk _, _, (by first | rfl | exact congrArg _ (Nat.add_assoc _ _ _))⟩); rintro _ rfl)
          (apply lx_want; kernel_rfl; (intro n; go_simp; first | exact lx_callV (HF.out _) | exact lx_callV2 (HF.out _)); rintro _ rfl)
          iterate 2 (apply lx_want; kernel_rfl; (intro n; go_simp; exact ⟨OneV.mk _, _, (by first | rfl | exact congrArg _ (Nat.add_assoc _ _ _))⟩); rintro _ rfl)
          (refine lx_nil (Vl := []) ?_; intro n; simp only [Act.put, List.setIfInBounds_toArray, List.set_cons_succ, List.set_cons_zero])
          go_wp2
          go_ret
          exact ⟨by rw [HU.out]; rfl, (by first | exact same1 _ _ | exact same0 _ | exact ⟨_, by rw [World.drewN_drewN]⟩)⟩
        · rw [h2] at HF
          have HU : Hid (rgsSame rs ss (k + 1) = true) := by rw [rgsSame, hall.out, e0, h1, h2]; rfl
          clear e0 h1 h2
          go_wp2_with fail
          refine wp_region_sets' (by kernel_rfl) (by kernel_rfl) ?_
          apply Exists.intro
          iterate 22 (apply lx_want; kernel_rfl; (intro n; go_simp; exact ⟨OneV.mk _, _, (by first | rfl | exact congrArg _ (Nat.add_assoc _ _ _))⟩); rintro _ rfl)
          (apply lx_want; kernel_rfl; (intro n; go_simp; first | exact lx_callV (HF.out _) | exact lx_callV2 (HF.out _)); rintro _ rfl)
          iterate 2 (apply lx_want; kernel_rfl; (intro n; go_simp; exact ⟨OneV.mk _, _, (by first | rfl | exact congrArg _ (Nat.add_assoc _ _ _))⟩); rintro _ rfl)
          (refine lx_nil (Vl := []) ?_; intro n; simp only [Act.put, List.setIfInBounds_toArray, List.set_cons_succ, List.set_cons_zero])
          go_wp2
          go_roundw
          case rel => exact ⟨k + 1, by omega, by go_num, HU, (by first | exact same1 _ _ | exact same0 _ | exact ⟨_, by rw [World.drewN_drewN]⟩)⟩
          case measure => simp [intOf]; omega
    · obtain rfl : k = n := by omega
      go_wp2
      go_ret
      exact ⟨by rw [hall.out]; rfl, (by first | exact same1 _ _ | exact same0 _ | exact ⟨_, by rw [World.drewN_drewN]⟩)⟩
end Go.Proofs.Ytfhegjjgfaeinaa
