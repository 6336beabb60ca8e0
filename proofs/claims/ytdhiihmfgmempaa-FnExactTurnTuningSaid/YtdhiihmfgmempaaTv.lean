
/-
Contracts of the reference's test of tunings; the law.
-/
import Derived.Test.YtdhiihmfgmempaaTu
import Derived.Test.YtdhiihmfgmempaaGt
import Derived.Test.YtdhiihmfgmempaaLw
import Derived.Test.YtdhiihmfgmempaaLd
namespace Go.Proofs.Ytdhiihmfgmempaa
open Go Go.RowKit Fl
theorem degB_0 {xs : List Nat} {oc : Nat} : degB xs oc 0 = ltB (nth xs 0) oc := by unfold degB; simp
theorem degB_s {xs : List Nat} {oc j : Nat} : degB xs oc (j + 1) = (ltB (nth xs (j + 1)) oc && gtB (nth xs (j + 1)) (nth xs j)) := by unfold degB; simp
set_option maxRecDepth 100000 in
set_option maxHeartbeats 4000000 in
theorem c_l07Ok (b o : Nat) (ba oc : Nat) (a : Option Addr) (n c : Nat) (xs : List Nat) (w : World) (h : FS w a n c xs) (e0 : w.cell? ⟨b, o, none⟩ = some (.float .f32 ba)) (e1 : w.cell? ⟨b, o + 1, none⟩ = some (.float .f32 oc)) (e2 : w.cell? ⟨b, o + 2, none⟩ = some (.slice a n c)) :
    Calls Try.prog 76 #[.pointer (some ⟨b, o, none⟩)] w (RetB (tunB ba oc xs n) w) := by
  have hbig : n ≤ 9223372036854775807 := Nat.le_trans h.cap h.big
  have HA := Lib.hid h.at_
  clear h
  cases h1 : insB ba 1065353216 1184645120
  · have e : tunB ba oc xs n = false := by unfold tunB; rw [h1]; rfl
    rw [e]
    clear e HA
    go_enter Try.func76, Try.ntmps76
    go_wp2_with (go_at_call 71; refine (c_l07Base _ _).mono ?_; rintro e w' ⟨rfl, n1, rfl⟩)
    go_ret
    exact ⟨rfl, same1 _ _⟩
  cases h2 : insB oc 1065353216 1167458304
  · have e : tunB ba oc xs n = false := by unfold tunB; rw [h1, h2]; rfl
    rw [e]
    clear e HA
    unfold insB at h2
    cases h21 : (FloatKind.f32.format.order oc 1065353216 == some .gt || FloatKind.f32.format.order oc 1065353216 == some .eq)
    all_goals
      rw [h21] at h2
      try simp only [Bool.true_and] at h2
      go_enter Try.func76, Try.ntmps76
      go_wp2_with (go_at_call 71; refine (c_l07Base _ _).mono ?_; rintro e w' ⟨rfl, n1, rfl⟩)
      go_ret
      exact ⟨rfl, same1 _ _⟩
  have hh2 := h2
  unfold insB at hh2
  rw [Bool.and_eq_true] at hh2
  obtain ⟨h21, h22⟩ := hh2
  cases h3 : inB n 1 31
  · have e : tunB ba oc xs n = false := by unfold tunB; rw [h1, h2, h3]; rfl
    rw [e]
    clear e HA h2
    rcases inB_no h3 with h31 | h31
    all_goals
      clear h3
      go_enter Try.func76, Try.ntmps76
      go_wp2_with (go_at_call 71; refine (c_l07Base _ _).mono ?_; rintro e w' ⟨rfl, n1, rfl⟩)
      go_ret
      exact ⟨rfl, same1 _ _⟩
  have hn := inB_yes h3
  obtain ⟨bl, q, rfl, hbl, hcell⟩ := HA.out (by omega)
  have hc0 := hcell 0 (by omega)
  rw [Nat.add_zero] at hc0
  have HC := Lib.hid hcell
  clear hcell HA
  have HS : Hid (∀ W, Calls Try.prog 81 #[.float .f32 (nth xs 0), .float .f32 0] W (RetB (sameB (nth xs 0) 0) W)) := fun W => c_l01Same _ _ W
  cases h4 : sameB (nth xs 0) 0
  · have e : tunB ba oc xs n = false := by unfold tunB; rw [h1, h2, h3, h4]; rfl
    rw [e]
    rw [h4] at HS
    clear e HC h4 h2 h3
    go_enter Try.func76, Try.ntmps76
    go_wp2_with (first | (go_at_call 71; refine (c_l07Base _ _).mono ?_; rintro e w' ⟨rfl, n1, rfl⟩) | (go_at_call 81; refine (HS.out _).mono ?_; rintro e w' ⟨rfl, n2, rfl⟩))
    go_ret
    exact ⟨rfl, same1 _ _⟩
  have e : tunB ba oc xs n = degTo xs oc n := by unfold tunB; rw [h1, h2, h3, h4]; rfl
  rw [e]
  rw [h4] at HS
  clear e h4 h2 h3
  go_enter Try.func76, Try.ntmps76
  go_wp2_with (first | (go_at_call 71; refine (c_l07Base _ _).mono ?_; rintro e w' ⟨rfl, n1, rfl⟩) | (go_at_call 81; refine (HS.out _).mono ?_; rintro e w' ⟨rfl, n2, rfl⟩))
  clear h1 h21 h22 hc0 HS
  go_loopw [4] (fun i wr => ∃ k : Nat, k ≤ n ∧ i = .int .i64 k ∧ Hid (degTo xs oc k = true) ∧ ∃ q, wr = w.drewN q) (fun i _ => n - (intOf i).toNat)
  case atStart => exact ⟨0, by omega, rfl, rfl, same1 _ _⟩
  case round =>
    obtain ⟨k, hk, rfl, hall, q', rfl⟩ := hrel
    by_cases hlt : k < n
    · have hc := HC.out k hlt
      by_cases hk0 : k = 0
      · have hk1 : ¬ (0 < (k : Int)) := by omega
        have hk2 : ¬ (0 < k) := by omega
        have hk3 : decide (0 < (k : Int)) = false := decide_eq_false hk1
        have hd0 : degB xs oc k = ltB (nth xs k) oc := by rw [hk0]; exact degB_0
        cases hd : (FloatKind.f32.format.order (nth xs k) oc == some .lt)
        · have HU : Hid (degTo xs oc n = false) := degTo_false (by rw [hd0]; exact hd) n hlt
          clear hk0 hd0
          go_wp2
          refine wp_region_sets' (by kernel_rfl) (by kernel_rfl) ?_
          apply Exists.intro
          iterate 3 (apply lx_want; kernel_rfl; (intro n; go_simp; exact ⟨OneV.mk _, _, (by first | rfl | exact congrArg _ (Nat.add_assoc _ _ _))⟩); rintro _ rfl)
          iterate 17 (apply lx_skip; kernel_rfl)
          iterate 16 (apply lx_want; kernel_rfl; (intro n; go_simp; exact ⟨OneV.mk _, _, (by first | rfl | exact congrArg _ (Nat.add_assoc _ _ _))⟩); rintro _ rfl)
          (refine lx_nil (Vl := []) ?_; intro n; simp only [Act.put, List.setIfInBounds_toArray, List.set_cons_succ, List.set_cons_zero])
          go_wp2
          go_ret
          exact ⟨by rw [HU.out]; rfl, by first | exact same1 _ _ | exact ⟨_, by rw [World.drewN_drewN]⟩⟩
        · have HU : Hid (degTo xs oc (k + 1) = true) := by show _ = _; rw [degTo, hall.out, hd0]; unfold ltB; rw [hd]; rfl
          clear hk0 hd0
          go_wp2
          refine wp_region_sets' (by kernel_rfl) (by kernel_rfl) ?_
          apply Exists.intro
          iterate 3 (apply lx_want; kernel_rfl; (intro n; go_simp; exact ⟨OneV.mk _, _, (by first | rfl | exact congrArg _ (Nat.add_assoc _ _ _))⟩); rintro _ rfl)
          iterate 17 (apply lx_skip; kernel_rfl)
          iterate 16 (apply lx_want; kernel_rfl; (intro n; go_simp; exact ⟨OneV.mk _, _, (by first | rfl | exact congrArg _ (Nat.add_assoc _ _ _))⟩); rintro _ rfl)
          (refine lx_nil (Vl := []) ?_; intro n; simp only [Act.put, List.setIfInBounds_toArray, List.set_cons_succ, List.set_cons_zero])
          go_wp2
          go_roundw
          case rel => exact ⟨k + 1, by omega, by go_num, HU, by first | exact same1 _ _ | exact ⟨_, by rw [World.drewN_drewN]⟩⟩
          case measure => simp [intOf]; omega
      · obtain ⟨j, rfl⟩ := Nat.exists_eq_succ_of_ne_zero hk0
        clear hk0
        have hw1 : IntKind.i64.wrap ((j : Nat) : Int) = j := IntWalk.i64_in _ (by omega)
        have hw2 : IntKind.i64.wrap (((j + 1 : Nat) : Int) - 1) = j := by rw [show (((j + 1 : Nat) : Int) - 1) = j by omega]; exact hw1
        have hw3 : (j : Int) < n := by omega
        have hw4 : j < n := by omega
        have hcj := HC.out j (by omega)
        cases hg : (FloatKind.f32.format.order (nth xs (j + 1)) (nth xs j) == some .gt)
        · have HU : Hid (degTo xs oc n = false) := degTo_false (by rw [degB_s]; unfold gtB; rw [hg, Bool.and_false]) n hlt
          go_wp2
          refine wp_region_sets' (by kernel_rfl) (by kernel_rfl) ?_
          apply Exists.intro
          iterate 22 (apply lx_want; kernel_rfl; (intro n; go_simp; exact ⟨OneV.mk _, _, (by first | rfl | exact congrArg _ (Nat.add_assoc _ _ _))⟩); rintro _ rfl)
          iterate 13 (apply lx_skip; kernel_rfl)
          (apply lx_want; kernel_rfl; (intro n; go_simp; exact ⟨OneV.mk _, _, (by first | rfl | exact congrArg _ (Nat.add_assoc _ _ _))⟩); rintro _ rfl)
          (refine lx_nil (Vl := []) ?_; intro n; simp only [Act.put, List.setIfInBounds_toArray, List.set_cons_succ, List.set_cons_zero])
          go_wp2
          go_ret
          exact ⟨by rw [HU.out]; rfl, by first | exact same1 _ _ | exact ⟨_, by rw [World.drewN_drewN]⟩⟩
        · cases hd : (FloatKind.f32.format.order (nth xs (j + 1)) oc == some .lt)
          · have HU : Hid (degTo xs oc n = false) := degTo_false (by rw [degB_s]; unfold ltB; rw [hd, Bool.false_and]) n hlt
            go_wp2
            refine wp_region_sets' (by kernel_rfl) (by kernel_rfl) ?_
            apply Exists.intro
            iterate 36 (apply lx_want; kernel_rfl; (intro n; go_simp; exact ⟨OneV.mk _, _, (by first | rfl | exact congrArg _ (Nat.add_assoc _ _ _))⟩); rintro _ rfl)
            (refine lx_nil (Vl := []) ?_; intro n; simp only [Act.put, List.setIfInBounds_toArray, List.set_cons_succ, List.set_cons_zero])
            go_wp2
            go_ret
            exact ⟨by rw [HU.out]; rfl, by first | exact same1 _ _ | exact ⟨_, by rw [World.drewN_drewN]⟩⟩
          · have HU : Hid (degTo xs oc (j + 1 + 1) = true) := by rw [degTo, hall.out, degB_s]; unfold ltB gtB; rw [hd, hg]; rfl
            go_wp2
            refine wp_region_sets' (by kernel_rfl) (by kernel_rfl) ?_
            apply Exists.intro
            iterate 36 (apply lx_want; kernel_rfl; (intro n; go_simp; exact ⟨OneV.mk _, _, (by first | rfl | exact congrArg _ (Nat.add_assoc _ _ _))⟩); rintro _ rfl)
            (refine lx_nil (Vl := []) ?_; intro n; simp only [Act.put, List.setIfInBounds_toArray, List.set_cons_succ, List.set_cons_zero])
            go_wp2
            go_roundw
            case rel => exact ⟨j + 1 + 1, by omega, by go_num, HU, by first | exact same1 _ _ | exact ⟨_, by rw [World.drewN_drewN]⟩⟩
            case measure => simp [intOf]; omega
    · obtain rfl : k = n := by omega
      go_wp2
      go_ret
      exact ⟨by rw [hall.out]; rfl, same1 _ _⟩
theorem c_sValidTuning (ba oc : Nat) (a : Option Addr) (n c : Nat) (xs : List Nat) (w : World) (h : FS w a n c xs) :
    Calls Try.prog 27 #[.agg #[.float .f32 ba, .float .f32 oc, .slice a n c]] w (RetV (.bool (tunB ba oc xs n)) w) := by
  have h' := Lib.hid (h.alloc (.cells #[.float .f32 ba, .float .f32 oc, .slice a n c] 31))
  clear h
  go_enter Try.func27, Try.ntmps27
  go_wp2_with fail
  refine (c_l07Ok _ 0 ba oc a n c xs _ h'.out (by simp) (by simp) (by simp)).mono ?_
  rintro e w' ⟨rfl, n1, rfl⟩
  go_wp2
  go_ret
  exact ⟨rfl, by (repeat (first | (with_reducible refine Below.drewN ?_) | (with_reducible refine Below.drew ?_) | ((with_reducible refine Below.alloc ?_ ?_ _); rotate_left; (first | omega | (simp <;> omega))) | ((with_reducible refine Below.setCell ?_ ?_ _); rotate_left; (first | omega | (simp <;> omega))) | (with_reducible exact Below.refl _ _) | (with_reducible assumption)))⟩
set_option maxRecDepth 100000 in
set_option maxHeartbeats 1000000 in
theorem l_ValidTuning (x1 : Nat) (x2 : Nat) (a1 : Option Addr) (n1 c1 : Nat) (xs1 : List Nat) (v : Bool) (w : World) (h_1 : FS w a1 n1 c1 xs1)
    (HS : ∀ W (d1 : Option Addr) (e1 : Nat), FS W d1 n1 e1 xs1 → Calls Try.prog 27 #[.agg #[.float .f32 x1, .float .f32 x2, .slice d1 n1 e1]] W (RetV (.bool v) W))
    (HI : ∀ W (d1 : Option Addr) (e1 : Nat), FS W d1 n1 e1 xs1 → Calls Try.prog 29 #[.agg #[.float .f32 x1, .float .f32 x2, .slice d1 n1 e1]] W (RetV (.bool v) W)) :
    Calls Try.prog 5 #[.agg #[.float .f32 x1, .float .f32 x2, .slice a1 n1 c1]] w (RetV (.bool true) w) := by
  have HS := Lib.hid HS
  have HI := Lib.hid HI
  have M1 : n1 ≤ 9223372036854775807 := Nat.le_trans h_1.cap h_1.big
  have H1 := Lib.hid h_1
  clear h_1
  by_cases ht : (n1 : Int) ≤ 1048576
  · have hl : ¬ (1048576 - n1 : Int) < 0 := by omega
    go_enter Try.func5, Try.ntmps5
    go_wp2_with fail
    refine (c_szTuning_ok _ _ _ _ _ (1048576) _ (by omega) (by omega) M1 (by omega)).mono ?_
    rintro e w1 ⟨rfl, hb1⟩
    obtain ⟨hc1, hf1, hz1⟩ := bcell hb1
    have hk1 := bblk hb1
    have Z1 : w.heap.size ≤ w1.heap.size := by first | exact hz1 | (simp at hz1; omega) | omega
    try (have ZS1 : w.heap.size < w1.heap.size := by first | omega | (simp at hz1; omega))
    try (have Xw_1 : w.heap.size < w1.heap.size := by first | omega | (simp at hz1; omega))
    try (have XXw_1 : w.heap.size < w1.heap.size + 1 := by omega)
    have b1 : Below w.heap.size w w1 := Below.trans (by (repeat (first | (with_reducible refine Below.drewN ?_) | (with_reducible refine Below.drew ?_) | ((with_reducible refine Below.alloc ?_ ?_ _); rotate_left; (first | omega | (simp <;> omega))) | ((with_reducible refine Below.setCell ?_ ?_ _); rotate_left; (first | omega | (simp <;> omega))) | (with_reducible exact Below.refl _ _) | (with_reducible assumption)))) (hb1.mono (by first | omega | (simp <;> omega)))
    go_wp2_with fail
    refine (c_toTuning' x1 x2 a1 n1 c1 xs1 _ (FS.below (B := w.heap.size) H1.out (by (repeat (first | (with_reducible refine Below.drewN ?_) | (with_reducible refine Below.drew ?_) | ((with_reducible refine Below.alloc ?_ ?_ _); rotate_left; (first | omega | (simp <;> omega))) | ((with_reducible refine Below.setCell ?_ ?_ _); rotate_left; (first | omega | (simp <;> omega))) | (with_reducible exact Below.refl _ _) | (with_reducible assumption)))) (Nat.le_refl _)) (by omega)).mono ?_
    rintro e w2 ⟨g1s, rfl, hb2, l0s, l1s, o1s_2⟩
    obtain ⟨hc2, hf2, hz2⟩ := bcell hb2
    have hk2 := bblk hb2
    have Z2 : w1.heap.size ≤ w2.heap.size := by first | exact hz2 | (simp at hz2; omega) | omega
    try (have ZS2 : w1.heap.size < w2.heap.size := by first | omega | (simp at hz2; omega))
    try (have Xw_2 : w.heap.size < w2.heap.size := by first | omega | (simp at hz2; omega))
    try (have XXw_2 : w.heap.size < w2.heap.size + 1 := by omega)
    have b2 : Below w.heap.size w w2 := Below.trans (by (repeat (first | (with_reducible refine Below.drewN ?_) | (with_reducible refine Below.drew ?_) | ((with_reducible refine Below.alloc ?_ ?_ _); rotate_left; (first | omega | (simp <;> omega))) | ((with_reducible refine Below.setCell ?_ ?_ _); rotate_left; (first | omega | (simp <;> omega))) | (with_reducible exact Below.refl _ _) | (with_reducible assumption)))) (hb2.mono (by first | omega | (simp <;> omega)))
    try simp at l0s
    have q1s : w1.heap.size ≤ g1s ∧ g1s < w2.heap.size := by omega
    go_wp2_with fail
    refine (HS.out _ _ _ (FS.below (B := w2.heap.size) o1s_2.fs (by (repeat (first | (with_reducible refine Below.drewN ?_) | (with_reducible refine Below.drew ?_) | ((with_reducible refine Below.alloc ?_ ?_ _); rotate_left; (first | omega | (simp <;> omega))) | ((with_reducible refine Below.setCell ?_ ?_ _); rotate_left; (first | omega | (simp <;> omega))) | (with_reducible exact Below.refl _ _) | (with_reducible assumption)))) (Nat.le_refl _))).mono ?_
    rintro e w3 ⟨rfl, hb3⟩
    obtain ⟨hc3, hf3, hz3⟩ := bcell hb3
    have hk3 := bblk hb3
    have Z3 : w2.heap.size ≤ w3.heap.size := by first | exact hz3 | (simp at hz3; omega) | omega
    try (have ZS3 : w2.heap.size < w3.heap.size := by first | omega | (simp at hz3; omega))
    try (have Xw_3 : w.heap.size < w3.heap.size := by first | omega | (simp at hz3; omega))
    try (have XXw_3 : w.heap.size < w3.heap.size + 1 := by omega)
    try (have Xw2_3 : w2.heap.size < w3.heap.size := by first | omega | (simp at hz3; omega))
    try (have XXw2_3 : w2.heap.size < w3.heap.size + 1 := by omega)
    have b3 : Below w.heap.size w w3 := Below.trans (by (repeat (first | (with_reducible refine Below.drewN ?_) | (with_reducible refine Below.drew ?_) | ((with_reducible refine Below.alloc ?_ ?_ _); rotate_left; (first | omega | (simp <;> omega))) | ((with_reducible refine Below.setCell ?_ ?_ _); rotate_left; (first | omega | (simp <;> omega))) | (with_reducible exact Below.refl _ _) | (with_reducible assumption)))) (hb3.mono (by first | omega | (simp <;> omega)))
    have o1s_3 := OF.below (g := g1s) (a := (some ⟨g1s, 0, none⟩)) (n := n1) (c := n1) (xs := xs1) (by (repeat (first | (with_reducible assumption) | (with_reducible refine OF.draw ?_) | (with_reducible exact OF.made' (by simp) (by simp) (by omega)) | (with_reducible refine OF.alloc ?_ _) | ((with_reducible refine OF.setCell ?_ ?_ _); rotate_left; (first | omega | (simp <;> omega)))))) hb3 (Nat.le_refl _)
    clear o1s_2
    go_wp2_with fail
    refine (c_toTuning' x1 x2 a1 n1 c1 xs1 _ (FS.below (B := w.heap.size) H1.out (by (repeat (first | (with_reducible refine Below.drewN ?_) | (with_reducible refine Below.drew ?_) | ((with_reducible refine Below.alloc ?_ ?_ _); rotate_left; (first | omega | (simp <;> omega))) | ((with_reducible refine Below.setCell ?_ ?_ _); rotate_left; (first | omega | (simp <;> omega))) | (with_reducible exact Below.refl _ _) | (with_reducible assumption)))) (Nat.le_refl _)) (by omega)).mono ?_
    rintro e w4 ⟨g1x, rfl, hb4, l0x, l1x, o1x_4⟩
    obtain ⟨hc4, hf4, hz4⟩ := bcell hb4
    have hk4 := bblk hb4
    have Z4 : w3.heap.size ≤ w4.heap.size := by first | exact hz4 | (simp at hz4; omega) | omega
    try (have ZS4 : w3.heap.size < w4.heap.size := by first | omega | (simp at hz4; omega))
    try (have Xw_4 : w.heap.size < w4.heap.size := by first | omega | (simp at hz4; omega))
    try (have XXw_4 : w.heap.size < w4.heap.size + 1 := by omega)
    try (have Xw2_4 : w2.heap.size < w4.heap.size := by first | omega | (simp at hz4; omega))
    try (have XXw2_4 : w2.heap.size < w4.heap.size + 1 := by omega)
    have b4 : Below w.heap.size w w4 := Below.trans (by (repeat (first | (with_reducible refine Below.drewN ?_) | (with_reducible refine Below.drew ?_) | ((with_reducible refine Below.alloc ?_ ?_ _); rotate_left; (first | omega | (simp <;> omega))) | ((with_reducible refine Below.setCell ?_ ?_ _); rotate_left; (first | omega | (simp <;> omega))) | (with_reducible exact Below.refl _ _) | (with_reducible assumption)))) (hb4.mono (by first | omega | (simp <;> omega)))
    try simp at l0x
    have q1x : w3.heap.size ≤ g1x ∧ g1x < w4.heap.size := by omega
    go_wp2_with fail
    refine (HI.out _ _ _ (FS.below (B := w4.heap.size) o1x_4.fs (by (repeat (first | (with_reducible refine Below.drewN ?_) | (with_reducible refine Below.drew ?_) | ((with_reducible refine Below.alloc ?_ ?_ _); rotate_left; (first | omega | (simp <;> omega))) | ((with_reducible refine Below.setCell ?_ ?_ _); rotate_left; (first | omega | (simp <;> omega))) | (with_reducible exact Below.refl _ _) | (with_reducible assumption)))) (Nat.le_refl _))).mono ?_
    rintro e w5 ⟨rfl, hb5⟩
    obtain ⟨hc5, hf5, hz5⟩ := bcell hb5
    have hk5 := bblk hb5
    have Z5 : w4.heap.size ≤ w5.heap.size := by first | exact hz5 | (simp at hz5; omega) | omega
    try (have ZS5 : w4.heap.size < w5.heap.size := by first | omega | (simp at hz5; omega))
    try (have Xw_5 : w.heap.size < w5.heap.size := by first | omega | (simp at hz5; omega))
    try (have XXw_5 : w.heap.size < w5.heap.size + 1 := by omega)
    try (have Xw2_5 : w2.heap.size < w5.heap.size := by first | omega | (simp at hz5; omega))
    try (have XXw2_5 : w2.heap.size < w5.heap.size + 1 := by omega)
    try (have Xw4_5 : w4.heap.size < w5.heap.size := by first | omega | (simp at hz5; omega))
    try (have XXw4_5 : w4.heap.size < w5.heap.size + 1 := by omega)
    have b5 : Below w.heap.size w w5 := Below.trans (by (repeat (first | (with_reducible refine Below.drewN ?_) | (with_reducible refine Below.drew ?_) | ((with_reducible refine Below.alloc ?_ ?_ _); rotate_left; (first | omega | (simp <;> omega))) | ((with_reducible refine Below.setCell ?_ ?_ _); rotate_left; (first | omega | (simp <;> omega))) | (with_reducible exact Below.refl _ _) | (with_reducible assumption)))) (hb5.mono (by first | omega | (simp <;> omega)))
    have o1x_5 := OF.below (g := g1x) (a := (some ⟨g1x, 0, none⟩)) (n := n1) (c := n1) (xs := xs1) (by (repeat (first | (with_reducible assumption) | (with_reducible refine OF.draw ?_) | (with_reducible exact OF.made' (by simp) (by simp) (by omega)) | (with_reducible refine OF.alloc ?_ _) | ((with_reducible refine OF.setCell ?_ ?_ _); rotate_left; (first | omega | (simp <;> omega)))))) hb5 (Nat.le_refl _)
    clear o1x_4
    go_wp2_with fail
    refine wp_region_grow [3] [2] (by kernel_rfl) (by kernel_rfl) (by kernel_rfl) ?_
    apply Exists.intro
    iterate 2 (apply lh_o; kernel_rfl; kernel_rfl; kernel_rfl; (intro W hW; have hWc := Grow.cells hW; have hWk := bblk hW; go_simp; exact ⟨OneV.mk _, Grow.refl _⟩))
    apply lh_w (fun g : Nat => Value.agg #[.float .f32 x1, .float .f32 x2, .slice (some ⟨g, 0, none⟩) n1 n1]) (fun g w' => w5.heap.size ≤ g ∧ g < w'.heap.size ∧ OF w' g (some ⟨g, 0, none⟩) n1 n1 xs1) 0 (fun g w w' h hg => ⟨h.1, Nat.lt_of_lt_of_le h.2.1 hg.size, OF.below h.2.2 hg (Nat.le_refl _)⟩) (fun i j h => by simp at h; first | exact h | (obtain ⟨i1, i2⟩ := i; obtain ⟨j1, j2⟩ := j; simp at h; simp [h]))
    kernel_rfl
    kernel_rfl
    kernel_rfl
    · intro W hW
      have hWc := Grow.cells hW
      go_simp
      exact (c_toTuning' x1 x2 a1 n1 c1 xs1 W (FS.below (B := w.heap.size) H1.out (b5.trans (Below.mono hW b5.size)) (Nat.le_refl _)) (by omega)).mono fun e w' ⟨t1, he, hb, l0, l1, o1⟩ => ⟨t1, he, ⟨Nat.le_trans hW.size l0, l1, o1⟩, hb⟩
    exact anti
    intro g
    (apply lh_h; kernel_rfl; kernel_rfl; kernel_rfl; (intro W hW; obtain ⟨hG, hK⟩ := hW; have hWc := Grow.cells hG; go_simp; exact gV (c_eqTuning' _ _ _ _ _ _ _ _ _ _ _ W rfl rfl (FS.below (B := w5.heap.size) o1x_5.fs hG (Nat.le_refl _)) (hK.2.2).fs (Alk.refl _))))
    (apply lh_o; kernel_rfl; kernel_rfl; kernel_rfl; (intro W hW; have hWc := Grow.cells hW; go_simp; exact ⟨OneV.mk _, Grow.refl _⟩))
    refine lh_nil ?_
    intro w6 hW6
    simp only [Act.put, List.setIfInBounds_toArray, List.set_cons_succ, List.set_cons_zero]
    have hb6 : Below w5.heap.size w5 w6 := hW6.1
    clear hW6
    obtain ⟨hc6, hf6, hz6⟩ := bcell hb6
    have hk6 := bblk hb6
    have Z6 : w5.heap.size ≤ w6.heap.size := by first | exact hz6 | (simp at hz6; omega) | omega
    try (have ZS6 : w5.heap.size < w6.heap.size := by first | omega | (simp at hz6; omega))
    try (have Xw_6 : w.heap.size < w6.heap.size := by first | omega | (simp at hz6; omega))
    try (have XXw_6 : w.heap.size < w6.heap.size + 1 := by omega)
    try (have Xw2_6 : w2.heap.size < w6.heap.size := by first | omega | (simp at hz6; omega))
    try (have XXw2_6 : w2.heap.size < w6.heap.size + 1 := by omega)
    try (have Xw4_6 : w4.heap.size < w6.heap.size := by first | omega | (simp at hz6; omega))
    try (have XXw4_6 : w4.heap.size < w6.heap.size + 1 := by omega)
    have b6 : Below w.heap.size w w6 := Below.trans (by (repeat (first | (with_reducible refine Below.drewN ?_) | (with_reducible refine Below.drew ?_) | ((with_reducible refine Below.alloc ?_ ?_ _); rotate_left; (first | omega | (simp <;> omega))) | ((with_reducible refine Below.setCell ?_ ?_ _); rotate_left; (first | omega | (simp <;> omega))) | (with_reducible exact Below.refl _ _) | (with_reducible assumption)))) (hb6.mono (by first | omega | (simp <;> omega)))
    have o1x_6 := OF.below (g := g1x) (a := (some ⟨g1x, 0, none⟩)) (n := n1) (c := n1) (xs := xs1) (by (repeat (first | (with_reducible assumption) | (with_reducible refine OF.draw ?_) | (with_reducible exact OF.made' (by simp) (by simp) (by omega)) | (with_reducible refine OF.alloc ?_ _) | ((with_reducible refine OF.setCell ?_ ?_ _); rotate_left; (first | omega | (simp <;> omega)))))) hb6 (Nat.le_refl _)
    clear o1x_5
    go_wp2
    go_ret
    exact ⟨rfl, by (repeat (first | (with_reducible refine Below.drewN ?_) | (with_reducible refine Below.drew ?_) | ((with_reducible refine Below.alloc ?_ ?_ _); rotate_left; (first | omega | (simp <;> omega))) | ((with_reducible refine Below.setCell ?_ ?_ _); rotate_left; (first | omega | (simp <;> omega))) | (with_reducible exact Below.refl _ _) | (with_reducible assumption)))⟩
  · go_enter Try.func5, Try.ntmps5
    go_wp2_with fail
    refine (c_szTuning_no _ _ _ _ _ (1048576) _ (by omega) (by omega) M1 (by omega)).mono ?_
    rintro e w1 ⟨rfl, hb1⟩
    obtain ⟨hc1, hf1, hz1⟩ := bcell hb1
    have hk1 := bblk hb1
    have Z1 : w.heap.size ≤ w1.heap.size := by first | exact hz1 | (simp at hz1; omega) | omega
    try (have ZS1 : w.heap.size < w1.heap.size := by first | omega | (simp at hz1; omega))
    try (have Xw_1 : w.heap.size < w1.heap.size := by first | omega | (simp at hz1; omega))
    try (have XXw_1 : w.heap.size < w1.heap.size + 1 := by omega)
    have b1 : Below w.heap.size w w1 := Below.trans (by (repeat (first | (with_reducible refine Below.drewN ?_) | (with_reducible refine Below.drew ?_) | ((with_reducible refine Below.alloc ?_ ?_ _); rotate_left; (first | omega | (simp <;> omega))) | ((with_reducible refine Below.setCell ?_ ?_ _); rotate_left; (first | omega | (simp <;> omega))) | (with_reducible exact Below.refl _ _) | (with_reducible assumption)))) (hb1.mono (by first | omega | (simp <;> omega)))
    go_wp2
    go_ret
    exact ⟨rfl, by (repeat (first | (with_reducible refine Below.drewN ?_) | (with_reducible refine Below.drew ?_) | ((with_reducible refine Below.alloc ?_ ?_ _); rotate_left; (first | omega | (simp <;> omega))) | ((with_reducible refine Below.setCell ?_ ?_ _); rotate_left; (first | omega | (simp <;> omega))) | (with_reducible exact Below.refl _ _) | (with_reducible assumption)))⟩


theorem k_ValidTuning (x1 x2 : Nat) (a1 : Option Addr) (n1 c1 : Nat) (xs1 : List Nat) (w : World) (h_1 : FS w a1 n1 c1 xs1) :
    Calls Try.prog 5 #[.agg #[.float .f32 x1, .float .f32 x2, .slice a1 n1 c1]] w (RetV (.bool true) w) :=
  l_ValidTuning x1 x2 a1 n1 c1 xs1 (tunB x1 x2 xs1 n1) w h_1 (fun W _ _ j => c_sValidTuning _ _ _ _ _ _ W j) (fun W _ _ j => c_ValidTuning _ _ _ _ _ _ W j)
end Go.Proofs.Ytdhiihmfgmempaa
