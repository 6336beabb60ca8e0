
/-
Contracts of the cents of keys.
-/
import Derived.Test.YtdhiihmfgmempaaTv
import Derived.IntWalk
namespace Go.Proofs.Ytdhiihmfgmempaa
open Go Go.RowKit Fl
/-- the octave and the degree of a key -/
def octK (n : Nat) (k : Int) : Int := k / n
def degK (n : Nat) (k : Int) : Nat := (k % n).toNat
theorem degK_lt {n : Nat} (h : 1 ≤ n) (k : Int) : degK n k < n := by
  unfold degK
  have := Int.emod_lt_of_pos k (show (0 : Int) < n by omega)
  have := Int.emod_nonneg k (show (n : Int) ≠ 0 by omega)
  omega
theorem degK_int {n : Nat} (h : 1 ≤ n) (k : Int) : ((degK n k : Nat) : Int) = k % n := by
  unfold degK
  exact Int.toNat_of_nonneg (Int.emod_nonneg k (by omega))
theorem key_split {n : Nat} (k : Int) (h : 1 ≤ n) : k = n * octK n k + degK n k := by
  rw [degK_int h]; unfold octK; exact (Int.mul_ediv_add_emod k n).symm
def centsF (oc : Nat) (xs : List Nat) (n : Nat) (k : Int) : Nat := fop .add .f32 (fop .mul .f32 oc (floatOfInt .f32 (octK n k))) (nth xs (degK n k))
theorem c_isKey (k : Int) (w : World) : Calls Try.prog 91 #[.int .i64 k] w (RetB (inB k (-100) 100) w) := by
  go_enter Try.func91, Try.ntmps91
  go_wp2_with (go_at_call 74; refine (c_within _ _ _ _).mono ?_; rintro e w' ⟨rfl, n1, rfl⟩)
  go_ret
  exact ⟨rfl, same1 _ _⟩
theorem c_l07Key (k : Int) (w : World) : Calls Try.prog 89 #[.int .i64 k] w (RetB (inB k (-100) 100) w) := by
  go_enter Try.func89, Try.ntmps89
  go_wp2_with (go_at_call 72; refine (c_l00In _ _ _ _).mono ?_; rintro e w' ⟨rfl, n1, rfl⟩)
  go_ret
  exact ⟨rfl, same1 _ _⟩
/-- Go's remainder and quotient of small numbers -/
theorem key_arith {n : Nat} {k : Int} (h1 : 1 ≤ n) (h2 : n ≤ 31) (h3 : -100 ≤ k) (h4 : k ≤ 100) :
    (-31 < k.tmod n ∧ k.tmod n < 31) ∧ (k.tmod n + n).tmod n = degK n k ∧ (k - (degK n k : Int)).tdiv n = octK n k ∧ (-101 ≤ k.tdiv n ∧ k.tdiv n ≤ 101) ∧ (k.tmod n < 0 → k.tdiv n - 1 = octK n k) ∧ (¬ k.tmod n < 0 → k.tdiv n = octK n k) ∧ -101 ≤ octK n k ∧ octK n k ≤ 100 ∧ -4000 ≤ octK n k * n ∧ octK n k * n ≤ 4000 ∧ k - octK n k * n = degK n k := by
  have e1 := degK_int h1 k
  have e2 := key_split k h1
  have l1 := degK_lt h1 k
  have hn : (n : Int) ≠ 0 := by omega
  have hm : (octK n k * n) % n = 0 := Int.mul_emod_left _ _
  generalize hd : ((degK n k : Nat) : Int) = d at *
  have hd0 : 0 ≤ d := by omega
  have hd1 : d < n := by omega
  generalize ho : octK n k = o at *
  have e3 : k = n * o + d := e2
  have e4 : k - d = o * n := by rw [e3, Int.mul_comm]; omega
  have t1 : (k - d).tdiv n = o := by rw [e4]; exact Int.mul_tdiv_cancel _ hn
  have b1 : -4000 ≤ o * n ∧ o * n ≤ 4000 := by omega
  have b2 : -101 ≤ o ∧ o ≤ 100 := by
    constructor
    · refine Int.not_lt.1 fun hlt => ?_
      have : o * n ≤ -102 * n := Int.mul_le_mul_of_nonneg_right (by omega) (by omega)
      omega
    · refine Int.not_lt.1 fun hlt => ?_
      have : 101 * n ≤ o * n := Int.mul_le_mul_of_nonneg_right (by omega) (by omega)
      omega
  have q1 := Int.mul_tdiv_add_tmod k n
  have q2 : k.tmod n < n := by
    rcases Int.le_total 0 k with h | h
    · rw [Int.tmod_eq_emod_of_nonneg h]; exact Int.emod_lt_of_pos _ (by omega)
    · have h5 := Int.tmod_nonneg n (show 0 ≤ -k by omega)
      rw [Int.neg_tmod] at h5; omega
  have q3 : -(n : Int) < k.tmod n := by
    rcases Int.le_total 0 k with h | h
    · have := Int.tmod_nonneg n h; omega
    · have h5 : (-k).tmod n < n := by rw [Int.tmod_eq_emod_of_nonneg (by omega)]; exact Int.emod_lt_of_pos _ (by omega)
      rw [Int.neg_tmod] at h5; omega
  generalize hr : k.tmod n = r at *
  generalize hq : k.tdiv n = q at *
  have key : ∀ x y : Int, 0 ≤ x → x < n → 0 ≤ y → y < n → ∀ u v : Int, n * u + x = n * v + y → u = v ∧ x = y := by
    intro x y hx0 hx hy0 hy u v huv
    have h6 : n * (u - v) = y - x := by rw [Int.mul_sub]; omega
    have : u - v = 0 := by
      rcases Int.lt_trichotomy (u - v) 0 with h | h | h
      · have : n * (u - v) ≤ n * (-1) := Int.mul_le_mul_of_nonneg_left (by omega) (by omega)
        omega
      · exact h
      · have : n * 1 ≤ n * (u - v) := Int.mul_le_mul_of_nonneg_left (by omega) (by omega)
        omega
    rw [this] at h6
    omega
  have c1 : r < 0 → q - 1 = o ∧ r + n = d := fun hneg => key (r + n) d (by omega) (by omega) hd0 hd1 (q - 1) o (by rw [Int.mul_sub]; omega)
  have c2 : ¬ r < 0 → q = o ∧ r = d := fun hneg => key r d (by omega) (by omega) hd0 hd1 q o (by omega)
  refine ⟨⟨by omega, by omega⟩, ?_, t1, ?_, fun h => (c1 h).1, fun h => (c2 h).1, b2.1, b2.2, b1.1, b1.2, by omega⟩
  · by_cases h : r < 0
    · rw [Int.tmod_eq_emod_of_nonneg (by omega), (c1 h).2, Int.emod_eq_of_lt hd0 hd1]
    · rw [Int.tmod_eq_emod_of_nonneg (by omega), (c2 h).2, Int.add_emod_right, Int.emod_eq_of_lt hd0 hd1]
  · by_cases h : r < 0
    · have := (c1 h).1; omega
    · have := (c2 h).1; omega
theorem c_cents (ba oc : Nat) (a : Option Addr) (n c : Nat) (xs : List Nat) (k : Int) (w : World) (h : FS w a n c xs) (h1 : 1 ≤ n) (h2 : n ≤ 31) (h3 : -100 ≤ k) (h4 : k ≤ 100) :
    Calls Try.prog 92 #[.agg #[.float .f32 ba, .float .f32 oc, .slice a n c], .int .i64 k] w (fun e w' => ∃ t, e = .returned (.float .f32 (nv .f32 (centsF oc xs n k) t)) ∧ Below w.heap.size w w') := by
  obtain ⟨⟨a1, a2⟩, a3, a4, _, _, _, b1, b2, b3, b4, b5⟩ := key_arith h1 h2 h3 h4
  have hdl := degK_lt h1 k
  obtain ⟨b, o, rfl, hbl, hcell⟩ := h.at_ (by omega)
  have hc := hcell _ hdl
  clear hcell h
  have hne : ¬ (n : Int) = 0 := by omega
  have hne2 : ¬ n = 0 := by omega
  have w1 : IntKind.i64.wrap (k.tmod n) = k.tmod n := IntWalk.i64_in _ (by omega)
  have w2 : IntKind.i64.wrap (k.tmod n + n) = k.tmod n + n := IntWalk.i64_in _ (by omega)
  have w3 : IntKind.i64.wrap ((degK n k : Nat) : Int) = ((degK n k : Nat) : Int) := IntWalk.i64_in _ (by omega)
  have w4 : IntKind.i64.wrap (k - ((degK n k : Nat) : Int)) = k - ((degK n k : Nat) : Int) := IntWalk.i64_in _ (by omega)
  have w5 : IntKind.i64.wrap (octK n k) = octK n k := IntWalk.i64_in _ (by omega)
  have HC : Hid (centsF oc xs n k = fop .add .f32 (fop .mul .f32 oc (floatOfInt .f32 (octK n k))) (nth xs (degK n k))) := rfl
  generalize centsF oc xs n k = C at *
  generalize octK n k = O at *
  generalize degK n k = D at *
  clear a1 a2 b1 b2 b3 b4 b5
  go_enter Try.func92, Try.ntmps92
  go_wp2_with (go_at_call 79; refine (c_length _ _ _ _).mono ?_; rintro e w' ⟨rfl, rfl⟩)
  refine wp_region_sets' (by kernel_rfl) (by kernel_rfl) ?_
  apply Exists.intro
  iterate 8 (apply lx_want; kernel_rfl; (intro n; go_simp; exact ⟨OneV.mk _, _, (by first | rfl | exact congrArg _ (Nat.add_assoc _ _ _))⟩); rintro _ rfl)
  (apply lx_want; kernel_rfl; (intro n; go_simp; exact ⟨LF.mk _ _ _, _, (by first | rfl | exact congrArg _ (Nat.add_assoc _ _ _))⟩); rintro _ ⟨t, rfl⟩)
  iterate 5 (first | (apply lx_want; kernel_rfl; (intro n; go_simp; exact ⟨LF.mk _ _ _, _, (by first | rfl | exact congrArg _ (Nat.add_assoc _ _ _))⟩); rintro _ ⟨t, rfl⟩) | (apply lx_want; kernel_rfl; (intro n; go_simp; exact ⟨OneV.mk _, _, (by first | rfl | exact congrArg _ (Nat.add_assoc _ _ _))⟩); rintro _ rfl))
  (apply lx_want; kernel_rfl; (intro n; go_simp; exact ⟨LF.mk _ _ _, _, (by first | rfl | exact congrArg _ (Nat.add_assoc _ _ _))⟩); rintro _ ⟨t, rfl⟩)
  (first | (apply lx_want; kernel_rfl; (intro n; go_simp; exact ⟨LF.mk _ _ _, _, (by first | rfl | exact congrArg _ (Nat.add_assoc _ _ _))⟩); rintro _ ⟨t, rfl⟩) | (apply lx_want; kernel_rfl; (intro n; go_simp; exact ⟨OneV.mk _, _, (by first | rfl | exact congrArg _ (Nat.add_assoc _ _ _))⟩); rintro _ rfl))
  (refine lx_nil (Vl := []) ?_; intro n; simp only [Act.put, List.setIfInBounds_toArray, List.set_cons_succ, List.set_cons_zero])
  go_wp2
  go_ret
  exact ⟨_, by rw [HC.out]; rfl, by (repeat (first | (with_reducible refine Below.drewN ?_) | (with_reducible refine Below.drew ?_) | ((with_reducible refine Below.alloc ?_ ?_ _); rotate_left; (first | omega | (simp <;> omega))) | ((with_reducible refine Below.setCell ?_ ?_ _); rotate_left; (first | omega | (simp <;> omega))) | (with_reducible exact Below.refl _ _) | (with_reducible assumption)))⟩
theorem c_l07KeyCents (b o : Nat) (ba oc : Nat) (a : Option Addr) (n c : Nat) (xs : List Nat) (k : Int) (w : World) (h : FS w a n c xs) (h1 : 1 ≤ n) (h2 : n ≤ 31) (h3 : -100 ≤ k) (h4 : k ≤ 100) (_e0 : w.cell? ⟨b, o, none⟩ = some (.float .f32 ba)) (e1 : w.cell? ⟨b, o + 1, none⟩ = some (.float .f32 oc)) (e2 : w.cell? ⟨b, o + 2, none⟩ = some (.slice a n c)) :
    Calls Try.prog 90 #[.pointer (some ⟨b, o, none⟩), .int .i64 k] w (RetF .f32 (centsF oc xs n k) w) := by
  obtain ⟨⟨a1, a2⟩, _, _, a4, a5, a6, b1, b2, b3, b4, b5⟩ := key_arith h1 h2 h3 h4
  have hdl := degK_lt h1 k
  obtain ⟨bl, q, rfl, hbl, hcell⟩ := h.at_ (by omega)
  have hc := hcell _ hdl
  clear hcell h
  have hne : ¬ (n : Int) = 0 := by omega
  have hne2 : ¬ n = 0 := by omega
  have w1 : IntKind.i64.wrap (k.tmod n) = k.tmod n := IntWalk.i64_in _ (by omega)
  have w2 : IntKind.i64.wrap (k.tdiv n) = k.tdiv n := IntWalk.i64_in _ (by omega)
  have w3 : IntKind.i64.wrap (octK n k * n) = octK n k * n := IntWalk.i64_in _ (by omega)
  have w4 : IntKind.i64.wrap (k - octK n k * n) = ((degK n k : Nat) : Int) := by rw [b5]; exact IntWalk.i64_in _ (by omega)
  have w5 : IntKind.i64.wrap (octK n k) = octK n k := IntWalk.i64_in _ (by omega)
  have HC : Hid (centsF oc xs n k = fop .add .f32 (fop .mul .f32 oc (floatOfInt .f32 (octK n k))) (nth xs (degK n k))) := rfl
  by_cases hneg : k.tmod n < 0
  · have a5 := a5 hneg
    have w6 : IntKind.i64.wrap (k.tdiv n - 1) = octK n k := by rw [a5]; exact w5
    generalize centsF oc xs n k = C at *
    generalize octK n k = O at *
    generalize degK n k = D at *
    clear a1 a2 b1 b2 b3 b4 b5 a6 a5
    go_enter Try.func90, Try.ntmps90
    go_wp2
    refine wp_region_sets' (by kernel_rfl) (by kernel_rfl) ?_
    apply Exists.intro
    iterate 6 (apply lx_want; kernel_rfl; (intro n; go_simp; exact ⟨OneV.mk _, _, (by first | rfl | exact congrArg _ (Nat.add_assoc _ _ _))⟩); rintro _ rfl)
    (apply lx_want; kernel_rfl; (intro n; go_simp; exact ⟨LF.mk _ _ _, _, (by first | rfl | exact congrArg _ (Nat.add_assoc _ _ _))⟩); rintro _ ⟨t, rfl⟩)
    iterate 11 (first | (apply lx_want; kernel_rfl; (intro n; go_simp; exact ⟨LF.mk _ _ _, _, (by first | rfl | exact congrArg _ (Nat.add_assoc _ _ _))⟩); rintro _ ⟨t, rfl⟩) | (apply lx_want; kernel_rfl; (intro n; go_simp; exact ⟨OneV.mk _, _, (by first | rfl | exact congrArg _ (Nat.add_assoc _ _ _))⟩); rintro _ rfl))
    (apply lx_want; kernel_rfl; (intro n; go_simp; exact ⟨LF.mk _ _ _, _, (by first | rfl | exact congrArg _ (Nat.add_assoc _ _ _))⟩); rintro _ ⟨t, rfl⟩)
    (first | (apply lx_want; kernel_rfl; (intro n; go_simp; exact ⟨LF.mk _ _ _, _, (by first | rfl | exact congrArg _ (Nat.add_assoc _ _ _))⟩); rintro _ ⟨t, rfl⟩) | (apply lx_want; kernel_rfl; (intro n; go_simp; exact ⟨OneV.mk _, _, (by first | rfl | exact congrArg _ (Nat.add_assoc _ _ _))⟩); rintro _ rfl))
    (refine lx_nil (Vl := []) ?_; intro n; simp only [Act.put, List.setIfInBounds_toArray, List.set_cons_succ, List.set_cons_zero])
    go_wp2
    go_ret
    exact .mk HC.out.symm (same1 _ _)
  · have a6 := a6 hneg
    have w6 : IntKind.i64.wrap (k.tdiv n) = octK n k := by rw [a6]; exact w5
    generalize centsF oc xs n k = C at *
    generalize octK n k = O at *
    generalize degK n k = D at *
    clear a1 a2 b1 b2 b3 b4 b5 a5 a6 w2
    go_enter Try.func90, Try.ntmps90
    go_wp2
    refine wp_region_sets' (by kernel_rfl) (by kernel_rfl) ?_
    apply Exists.intro
    iterate 6 (apply lx_want; kernel_rfl; (intro n; go_simp; exact ⟨OneV.mk _, _, (by first | rfl | exact congrArg _ (Nat.add_assoc _ _ _))⟩); rintro _ rfl)
    (apply lx_want; kernel_rfl; (intro n; go_simp; exact ⟨LF.mk _ _ _, _, (by first | rfl | exact congrArg _ (Nat.add_assoc _ _ _))⟩); rintro _ ⟨t, rfl⟩)
    iterate 11 (first | (apply lx_want; kernel_rfl; (intro n; go_simp; exact ⟨LF.mk _ _ _, _, (by first | rfl | exact congrArg _ (Nat.add_assoc _ _ _))⟩); rintro _ ⟨t, rfl⟩) | (apply lx_want; kernel_rfl; (intro n; go_simp; exact ⟨OneV.mk _, _, (by first | rfl | exact congrArg _ (Nat.add_assoc _ _ _))⟩); rintro _ rfl))
    (apply lx_want; kernel_rfl; (intro n; go_simp; exact ⟨LF.mk _ _ _, _, (by first | rfl | exact congrArg _ (Nat.add_assoc _ _ _))⟩); rintro _ ⟨t, rfl⟩)
    (first | (apply lx_want; kernel_rfl; (intro n; go_simp; exact ⟨LF.mk _ _ _, _, (by first | rfl | exact congrArg _ (Nat.add_assoc _ _ _))⟩); rintro _ ⟨t, rfl⟩) | (apply lx_want; kernel_rfl; (intro n; go_simp; exact ⟨OneV.mk _, _, (by first | rfl | exact congrArg _ (Nat.add_assoc _ _ _))⟩); rintro _ rfl))
    (refine lx_nil (Vl := []) ?_; intro n; simp only [Act.put, List.setIfInBounds_toArray, List.set_cons_succ, List.set_cons_zero])
    go_wp2
    go_ret
    exact .mk HC.out.symm (same1 _ _)
def RetFC (v : Nat) (code : Int) (w : World) (e : Ending) (w' : World) : Prop := ∃ t, e = .returned (.tuple #[.float .f32 (nv .f32 v t), .int .i64 code]) ∧ Below w.heap.size w w'
theorem c_sameFloatV (a t u : Nat) (w : World) : Calls Try.prog 39 #[.float .f64 (nv .f64 a t), .float .f64 (nv .f64 a u)] w (RetV (.bool true) w) :=
  (c_sameFloat a t u w).mono fun _ _ ⟨he, n, hn⟩ => ⟨he, hn ▸ below_drewN (Below.refl _ _) n⟩
theorem tunB_n {b oc : Nat} {xs : List Nat} {n : Nat} (h : tunB b oc xs n = true) : 1 ≤ n ∧ n ≤ 31 := by
  unfold tunB at h
  simp only [Bool.and_eq_true] at h
  have := inB_yes h.1.1.2
  omega
theorem c_KeyCents_bad (ba oc : Nat) (a : Option Addr) (n c : Nat) (xs : List Nat) (k : Int) (w : World) (h : FS w a n c xs) (hv : tunB ba oc xs n = false) :
    Calls Try.prog 38 #[.agg #[.float .f32 ba, .float .f32 oc, .slice a n c], .int .i64 k] w (RetFC 0 1 w) := by
  have K1 : Hid (∀ W, Below w.heap.size w W → Calls Try.prog 29 #[.agg #[.float .f32 ba, .float .f32 oc, .slice a n c]] W (RetV (.bool false) W)) := fun W hb => hv ▸ c_ValidTuning _ _ _ _ _ xs W (h.below hb (Nat.le_refl _))
  clear h hv
  go_enter Try.func38, Try.ntmps38
  go_wp2_with fail
  refine (K1.out _ (by (repeat (first | (with_reducible refine Below.drewN ?_) | (with_reducible refine Below.drew ?_) | ((with_reducible refine Below.alloc ?_ ?_ _); rotate_left; (first | omega | (simp <;> omega))) | ((with_reducible refine Below.setCell ?_ ?_ _); rotate_left; (first | omega | (simp <;> omega))) | (with_reducible exact Below.refl _ _) | (with_reducible assumption))))).mono ?_
  rintro e w1 ⟨rfl, hb1⟩
  obtain ⟨hc1, hf1, hz1⟩ := bcell hb1
  try simp at hz1
  have zb1 : w.heap.size ≤ w1.heap.size := by omega
  try (have z1_0 : w.heap.size < w1.heap.size := by omega)
  try (have z1_1 : w.heap.size + 1 < w1.heap.size := by omega)
  try (have z1_2 : w.heap.size + 1 + 1 < w1.heap.size := by omega)
  try (have z1_3 : w.heap.size + 1 + 1 + 1 < w1.heap.size := by omega)
  have b1 : Below w.heap.size w w1 := Below.trans (by (repeat (first | (with_reducible refine Below.drewN ?_) | (with_reducible refine Below.drew ?_) | ((with_reducible refine Below.alloc ?_ ?_ _); rotate_left; (first | omega | (simp <;> omega))) | ((with_reducible refine Below.setCell ?_ ?_ _); rotate_left; (first | omega | (simp <;> omega))) | (with_reducible exact Below.refl _ _) | (with_reducible assumption)))) (hb1.mono (by first | omega | (simp <;> omega)))
  go_wp2
  go_ret2
  exact ⟨0, rfl, by (repeat (first | (with_reducible refine Below.drewN ?_) | (with_reducible refine Below.drew ?_) | ((with_reducible refine Below.alloc ?_ ?_ _); rotate_left; (first | omega | (simp <;> omega))) | ((with_reducible refine Below.setCell ?_ ?_ _); rotate_left; (first | omega | (simp <;> omega))) | (with_reducible exact Below.refl _ _) | (with_reducible assumption)))⟩
theorem c_KeyCents_key (ba oc : Nat) (a : Option Addr) (n c : Nat) (xs : List Nat) (k : Int) (w : World) (h : FS w a n c xs) (hv : tunB ba oc xs n = true) (hk : inB k (-100) 100 = false) :
    Calls Try.prog 38 #[.agg #[.float .f32 ba, .float .f32 oc, .slice a n c], .int .i64 k] w (RetFC 0 2 w) := by
  have K1 : Hid (∀ W, Below w.heap.size w W → Calls Try.prog 29 #[.agg #[.float .f32 ba, .float .f32 oc, .slice a n c]] W (RetV (.bool true) W)) := fun W hb => hv ▸ c_ValidTuning _ _ _ _ _ xs W (h.below hb (Nat.le_refl _))
  clear h hv
  go_enter Try.func38, Try.ntmps38
  go_wp2_with fail
  refine (K1.out _ (by (repeat (first | (with_reducible refine Below.drewN ?_) | (with_reducible refine Below.drew ?_) | ((with_reducible refine Below.alloc ?_ ?_ _); rotate_left; (first | omega | (simp <;> omega))) | ((with_reducible refine Below.setCell ?_ ?_ _); rotate_left; (first | omega | (simp <;> omega))) | (with_reducible exact Below.refl _ _) | (with_reducible assumption))))).mono ?_
  rintro e w1 ⟨rfl, hb1⟩
  obtain ⟨hc1, hf1, hz1⟩ := bcell hb1
  try simp at hz1
  have zb1 : w.heap.size ≤ w1.heap.size := by omega
  try (have z1_0 : w.heap.size < w1.heap.size := by omega)
  try (have z1_1 : w.heap.size + 1 < w1.heap.size := by omega)
  try (have z1_2 : w.heap.size + 1 + 1 < w1.heap.size := by omega)
  try (have z1_3 : w.heap.size + 1 + 1 + 1 < w1.heap.size := by omega)
  have b1 : Below w.heap.size w w1 := Below.trans (by (repeat (first | (with_reducible refine Below.drewN ?_) | (with_reducible refine Below.drew ?_) | ((with_reducible refine Below.alloc ?_ ?_ _); rotate_left; (first | omega | (simp <;> omega))) | ((with_reducible refine Below.setCell ?_ ?_ _); rotate_left; (first | omega | (simp <;> omega))) | (with_reducible exact Below.refl _ _) | (with_reducible assumption)))) (hb1.mono (by first | omega | (simp <;> omega)))
  go_wp2_with (go_at_call 91; refine (c_isKey _ _).mono ?_; rintro e w' ⟨rfl, n1, rfl⟩)
  go_ret2
  exact ⟨0, rfl, by (repeat (first | (with_reducible refine Below.drewN ?_) | (with_reducible refine Below.drew ?_) | ((with_reducible refine Below.alloc ?_ ?_ _); rotate_left; (first | omega | (simp <;> omega))) | ((with_reducible refine Below.setCell ?_ ?_ _); rotate_left; (first | omega | (simp <;> omega))) | (with_reducible exact Below.refl _ _) | (with_reducible assumption)))⟩
theorem c_KeyCents_ok (ba oc : Nat) (a : Option Addr) (n c : Nat) (xs : List Nat) (k : Int) (w : World) (h : FS w a n c xs) (hv : tunB ba oc xs n = true) (hk : inB k (-100) 100 = true) :
    Calls Try.prog 38 #[.agg #[.float .f32 ba, .float .f32 oc, .slice a n c], .int .i64 k] w (RetFC (centsF oc xs n k) 0 w) := by
  have hn := tunB_n hv
  have hkk := inB_yes hk
  have K1 : Hid (∀ W, Below w.heap.size w W → Calls Try.prog 29 #[.agg #[.float .f32 ba, .float .f32 oc, .slice a n c]] W (RetV (.bool true) W)) := fun W hb => hv ▸ c_ValidTuning _ _ _ _ _ xs W (h.below hb (Nat.le_refl _))
  have K2 : Hid (∀ W, Below w.heap.size w W → Calls Try.prog 92 #[.agg #[.float .f32 ba, .float .f32 oc, .slice a n c], .int .i64 k] W (fun e w' => ∃ t, e = .returned (.float .f32 (nv .f32 (centsF oc xs n k) t)) ∧ Below W.heap.size W w')) := fun W hb => c_cents _ _ _ _ _ xs k W (h.below hb (Nat.le_refl _)) hn.1 hn.2 hkk.1 hkk.2
  clear h hv hn hkk
  go_enter Try.func38, Try.ntmps38
  go_wp2_with fail
  refine (K1.out _ (by (repeat (first | (with_reducible refine Below.drewN ?_) | (with_reducible refine Below.drew ?_) | ((with_reducible refine Below.alloc ?_ ?_ _); rotate_left; (first | omega | (simp <;> omega))) | ((with_reducible refine Below.setCell ?_ ?_ _); rotate_left; (first | omega | (simp <;> omega))) | (with_reducible exact Below.refl _ _) | (with_reducible assumption))))).mono ?_
  rintro e w1 ⟨rfl, hb1⟩
  obtain ⟨hc1, hf1, hz1⟩ := bcell hb1
  try simp at hz1
  have zb1 : w.heap.size ≤ w1.heap.size := by omega
  try (have z1_0 : w.heap.size < w1.heap.size := by omega)
  try (have z1_1 : w.heap.size + 1 < w1.heap.size := by omega)
  try (have z1_2 : w.heap.size + 1 + 1 < w1.heap.size := by omega)
  try (have z1_3 : w.heap.size + 1 + 1 + 1 < w1.heap.size := by omega)
  have b1 : Below w.heap.size w w1 := Below.trans (by (repeat (first | (with_reducible refine Below.drewN ?_) | (with_reducible refine Below.drew ?_) | ((with_reducible refine Below.alloc ?_ ?_ _); rotate_left; (first | omega | (simp <;> omega))) | ((with_reducible refine Below.setCell ?_ ?_ _); rotate_left; (first | omega | (simp <;> omega))) | (with_reducible exact Below.refl _ _) | (with_reducible assumption)))) (hb1.mono (by first | omega | (simp <;> omega)))
  go_wp2_with (go_at_call 91; refine (c_isKey _ _).mono ?_; rintro e w' ⟨rfl, n1, rfl⟩)
  refine (K2.out _ (by (repeat (first | (with_reducible refine Below.drewN ?_) | (with_reducible refine Below.drew ?_) | ((with_reducible refine Below.alloc ?_ ?_ _); rotate_left; (first | omega | (simp <;> omega))) | ((with_reducible refine Below.setCell ?_ ?_ _); rotate_left; (first | omega | (simp <;> omega))) | (with_reducible exact Below.refl _ _) | (with_reducible assumption))))).mono ?_
  rintro e w2 ⟨t, rfl, hb2⟩
  obtain ⟨hc2, hf2, hz2⟩ := bcell hb2
  try simp at hz2
  have zb2 : w.heap.size ≤ w2.heap.size := by omega
  try (have z2_0 : w.heap.size < w2.heap.size := by omega)
  try (have z2_1 : w.heap.size + 1 < w2.heap.size := by omega)
  try (have z2_2 : w.heap.size + 1 + 1 < w2.heap.size := by omega)
  try (have z2_3 : w.heap.size + 1 + 1 + 1 < w2.heap.size := by omega)
  have b2 : Below w.heap.size w w2 := Below.trans (by (repeat (first | (with_reducible refine Below.drewN ?_) | (with_reducible refine Below.drew ?_) | ((with_reducible refine Below.alloc ?_ ?_ _); rotate_left; (first | omega | (simp <;> omega))) | ((with_reducible refine Below.setCell ?_ ?_ _); rotate_left; (first | omega | (simp <;> omega))) | (with_reducible exact Below.refl _ _) | (with_reducible assumption)))) (hb2.mono (by first | omega | (simp <;> omega)))
  go_wp2
  go_ret2
  exact ⟨t, rfl, by (repeat (first | (with_reducible refine Below.drewN ?_) | (with_reducible refine Below.drew ?_) | ((with_reducible refine Below.alloc ?_ ?_ _); rotate_left; (first | omega | (simp <;> omega))) | ((with_reducible refine Below.setCell ?_ ?_ _); rotate_left; (first | omega | (simp <;> omega))) | (with_reducible exact Below.refl _ _) | (with_reducible assumption)))⟩
theorem c_sKeyCents_bad (ba oc : Nat) (a : Option Addr) (n c : Nat) (xs : List Nat) (k : Int) (w : World) (h : FS w a n c xs) (hv : tunB ba oc xs n = false) :
    Calls Try.prog 37 #[.agg #[.float .f32 ba, .float .f32 oc, .slice a n c], .int .i64 k] w (RetFC 0 1 w) := by
  have h' := Lib.hid (h.alloc (.cells #[.float .f32 ba, .float .f32 oc, .slice a n c] 31))
  have HV := Lib.hid hv
  clear h hv
  go_enter Try.func37, Try.ntmps37
  go_wp2_with fail
  refine (HV.out ▸ c_l07Ok _ 0 ba oc a n c xs _ h'.out (by simp) (by simp) (by simp)).mono ?_
  rintro e w' ⟨rfl, n1, rfl⟩
  go_wp2
  go_ret2
  exact ⟨0, rfl, by (repeat (first | (with_reducible refine Below.drewN ?_) | (with_reducible refine Below.drew ?_) | ((with_reducible refine Below.alloc ?_ ?_ _); rotate_left; (first | omega | (simp <;> omega))) | ((with_reducible refine Below.setCell ?_ ?_ _); rotate_left; (first | omega | (simp <;> omega))) | (with_reducible exact Below.refl _ _) | (with_reducible assumption)))⟩
theorem c_sKeyCents_key (ba oc : Nat) (a : Option Addr) (n c : Nat) (xs : List Nat) (k : Int) (w : World) (h : FS w a n c xs) (hv : tunB ba oc xs n = true) (hk : inB k (-100) 100 = false) :
    Calls Try.prog 37 #[.agg #[.float .f32 ba, .float .f32 oc, .slice a n c], .int .i64 k] w (RetFC 0 2 w) := by
  have h' := Lib.hid (h.alloc (.cells #[.float .f32 ba, .float .f32 oc, .slice a n c] 31))
  have HV := Lib.hid hv
  clear h hv
  go_enter Try.func37, Try.ntmps37
  go_wp2_with fail
  refine (HV.out ▸ c_l07Ok _ 0 ba oc a n c xs _ h'.out (by simp) (by simp) (by simp)).mono ?_
  rintro e w' ⟨rfl, n1, rfl⟩
  go_wp2_with (go_at_call 89; refine (c_l07Key _ _).mono ?_; rintro e w' ⟨rfl, n2, rfl⟩)
  go_ret2
  exact ⟨0, rfl, by (repeat (first | (with_reducible refine Below.drewN ?_) | (with_reducible refine Below.drew ?_) | ((with_reducible refine Below.alloc ?_ ?_ _); rotate_left; (first | omega | (simp <;> omega))) | ((with_reducible refine Below.setCell ?_ ?_ _); rotate_left; (first | omega | (simp <;> omega))) | (with_reducible exact Below.refl _ _) | (with_reducible assumption)))⟩
theorem c_sKeyCents_ok (ba oc : Nat) (a : Option Addr) (n c : Nat) (xs : List Nat) (k : Int) (w : World) (h : FS w a n c xs) (hv : tunB ba oc xs n = true) (hk : inB k (-100) 100 = true) :
    Calls Try.prog 37 #[.agg #[.float .f32 ba, .float .f32 oc, .slice a n c], .int .i64 k] w (RetFC (centsF oc xs n k) 0 w) := by
  have hn := tunB_n hv
  have hkk := inB_yes hk
  have h' := Lib.hid (h.alloc (.cells #[.float .f32 ba, .float .f32 oc, .slice a n c] 31))
  have HV := Lib.hid hv
  clear h hv
  go_enter Try.func37, Try.ntmps37
  go_wp2_with fail
  refine (HV.out ▸ c_l07Ok _ 0 ba oc a n c xs _ h'.out (by simp) (by simp) (by simp)).mono ?_
  rintro e w' ⟨rfl, n1, rfl⟩
  go_wp2_with (first | (go_at_call 89; refine (c_l07Key _ _).mono ?_; rintro e w' ⟨rfl, n2, rfl⟩) | (go_at_call 90; refine (c_l07KeyCents _ 0 ba oc a n c xs k _ (h'.out.below (below_drewN (Below.refl _ _) _) (Nat.le_refl _)) hn.1 hn.2 hkk.1 hkk.2 (by simp) (by simp) (by simp)).mono ?_; rintro e w' ⟨t3, n3, rfl, rfl⟩))
  go_ret2
  exact ⟨_, rfl, by (repeat (first | (with_reducible refine Below.drewN ?_) | (with_reducible refine Below.drew ?_) | ((with_reducible refine Below.alloc ?_ ?_ _); rotate_left; (first | omega | (simp <;> omega))) | ((with_reducible refine Below.setCell ?_ ?_ _); rotate_left; (first | omega | (simp <;> omega))) | (with_reducible exact Below.refl _ _) | (with_reducible assumption)))⟩
end Go.Proofs.Ytdhiihmfgmempaa
