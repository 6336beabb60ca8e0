
/-
Contracts of new bows.
-/
import Derived.Test.YtbkafmikaojclaaNj
import Derived.Test.YtbkafmikaojclaaGb
import Derived.Test.YtbkafmikaojclaaCc
import Derived.Test.YtbkafmikaojclaaPw
namespace Go.Proofs.Ytbkafmikaojclaa
open Go Go.RowKit Fl
/-- where a bow meets its string, as a whole number -/
def bowX (p pl : Nat) : Nat := whole .down (up (fop .mul .f32 pl (floatOfInt .f32 (p : Int))))
theorem minus_zero : ∀ p : Fin 1025, 1 ≤ p.val → fop .mul .f32 2147483648 (floatOfInt .f32 (p.val : Int)) = 2147483648 := by decide +kernel
theorem bow_facts {p pl : Nat} (h1 : 1 ≤ p) (h2 : p ≤ 1024) (hp : pl < 4294967296) (h : insB pl 0 1065353216 = true) :
    ∃ m : Nat, m ≤ 1024 ∧ isNaN .f32 (fop .mul .f32 pl (floatOfInt .f32 (p : Int))) = false ∧ isNaN .f64 (bowX p pl) = false ∧ floatToIntVal .f64 (bowX p pl) .i64 = some (m : Int) := by
  unfold insB at h
  simp only [Bool.and_eq_true, Bool.or_eq_true, beq_iff_eq] at h
  rcases ge_zero (k := .f32) hp h.1 with hx | hx
  · have hle := le_of_order (k := .f32) (x := pl) (y := 1065353216) hx (by rw [inf32]; decide) h.2
    have hi1 : floatOfInt .f32 ((1024 : Nat) : Int) = 1149239296 := by decide +kernel
    have hi : floatOfInt .f32 (p : Int) ≤ 1149239296 := hi1 ▸ floatOfInt_mono (by omega) (by omega)
    have hX := fmul_mono (k := .f32) (x := pl) (y := floatOfInt .f32 (p : Int)) (X := 1065353216) (Y := 1149239296) (by rw [inf32]; decide) (by rw [inf32]; decide) hle hi
    have e1 : fop .mul .f32 1065353216 1149239296 = 1149239296 := by decide +kernel
    rw [e1] at hX
    unfold bowX
    generalize fop .mul .f32 pl (floatOfInt .f32 (p : Int)) = X at *
    have hu : up X ≤ up 1149239296 := up_mono (by decide) hX
    have e2 : up 1149239296 = 4652218415073722368 := by decide +kernel
    have hf := flo_mono hu
    rw [e2] at hf hu
    have e3 : flo 4652218415073722368 = 1024 := by decide +kernel
    rw [e3] at hf
    have hw : whole .down (up X) = floatOfInt .f64 (flo (up X) : Nat) := whole_down (by have := inf64; rw [show FloatKind.f64.format = Ieee.double from rfl] at this; omega)
    rw [hw]
    exact ⟨flo (up X), hf, isNaN_pos (by rw [inf32]; omega), isNaN_int _ _, toInt_int (by omega)⟩
  · have hx' : pl = 2147483648 := hx
    subst hx'
    unfold bowX
    rw [minus_zero ⟨p, by omega⟩ h1]
    exact ⟨0, by omega, by decide +kernel, by decide +kernel, by decide +kernel⟩
theorem NewBow.zero {w w' : World} {code : Int} (hb : Below w.heap.size w w') : NewBow 0 [] 0 0 [] 0 0 0 0 0 0 0 0 0 code w (.returned (.tuple #[.agg #[.slice none 0 0, .int .i64 0, .slice none 0 0, .int .i64 0, .int .i64 0, .float .f32 0, .float .f32 0, .float .f32 0, .float .f32 0, .float .f32 0, .float .f32 0, .float .f32 0], .int .i64 code])) w' :=
  ⟨none, none, 0, 0, 0, 1, 0, 0, 0, 0, 0, 0, 0, rfl, hb, fun h => absurd h (by omega), fun h => absurd h (by omega), by omega, OF.nil _ _, OF.nil _ _⟩
def newBowB (p : Int) (pl ke lo sl : Nat) : Bool := inB p 2 1024 && (insB pl 0 1065353216 && (keepB ke && (insB lo 0 1065353216 && finB sl)))
abbrev newBowR (p n : Nat) (ke lo sl : Nat) (w : World) : Ending → World → Prop := NewBow (p - n) (List.replicate (p - n) 0) 0 n (List.replicate n 0) 0 1 (fop .sub .f32 1065353216 ke) ke 0 0 0 sl lo 0 w
theorem c_NewBow_no (p : Int) (pl ke lo sl : Nat) (w : World) (h : newBowB p pl ke lo sl = false) :
    Calls Try.prog 30 #[.int .i64 p, .float .f32 pl, .float .f32 ke, .float .f32 lo, .float .f32 sl] w (NewBow 0 [] 0 0 [] 0 0 0 0 0 0 0 0 0 2 w) := by
  unfold newBowB at h
  cases h1 : inB p 2 1024 <;> rw [h1] at h
  case' true => cases h2 : insB pl 0 1065353216 <;> rw [h2] at h
  case' true.true => cases h3 : keepB ke <;> rw [h3] at h
  case' true.true.true => cases h4 : insB lo 0 1065353216 <;> rw [h4] at h
  case' true.true.true.true => simp only [Bool.true_and] at h; have h5 := h
  all_goals
    clear h
    go_enter Try.func30, Try.ntmps30
    go_wp2_with (first | (go_at_call 61; refine (c_within _ _ _ _).mono ?_; rintro e w' ⟨rfl, n1, rfl⟩) | (go_at_call 62; refine (c_isKeep _ _).mono ?_; rintro e w' ⟨rfl, n1, rfl⟩) | (go_at_call 63; refine (c_inside _ _ _ _).mono ?_; rintro e w' ⟨rfl, n1, rfl⟩) | (go_at_call 84; refine (c_isFinite _ _).mono ?_; rintro e w' ⟨rfl, n1, rfl⟩))
    refine bodyPost_ret (v := ?v) (by simp [results, Try.results30, go_sem, *] <;> rfl) rfl ?_
    exact NewBow.zero (by (repeat (first | (with_reducible refine Below.drewN ?_) | (with_reducible refine Below.drew ?_) | ((with_reducible refine Below.alloc ?_ ?_ _); rotate_left; (first | omega | (simp <;> omega))) | ((with_reducible refine Below.setCell ?_ ?_ _); rotate_left; (first | omega | (simp <;> omega))) | ((with_reducible refine Below.setCells ?_ ?_ _); rotate_left; (first | omega | (simp <;> omega))) | (with_reducible exact Below.refl _ _) | (with_reducible assumption))))
theorem c_sNewBow_no (p : Int) (pl ke lo sl : Nat) (w : World) (h : newBowB p pl ke lo sl = false) :
    Calls Try.prog 29 #[.int .i64 p, .float .f32 pl, .float .f32 ke, .float .f32 lo, .float .f32 sl] w (NewBow 0 [] 0 0 [] 0 0 0 0 0 0 0 0 0 2 w) := by
  unfold newBowB keepB insB at h
  cases h1 : inB p 2 1024 <;> rw [h1] at h
  case' true => cases h2 : (FloatKind.f32.format.order pl 0 == some .gt || FloatKind.f32.format.order pl 0 == some .eq) <;> rw [h2] at h
  case' true.true => cases h3 : (FloatKind.f32.format.order pl 1065353216 == some .lt || FloatKind.f32.format.order pl 1065353216 == some .eq) <;> rw [h3] at h
  case' true.true.true => cases h4 : (FloatKind.f32.format.order ke 0 == some .gt || FloatKind.f32.format.order ke 0 == some .eq) <;> rw [h4] at h
  case' true.true.true.true => cases h5 : (FloatKind.f32.format.order ke 1065353216 == some .lt) <;> rw [h5] at h
  case' true.true.true.true.true => cases h6 : (FloatKind.f32.format.order lo 0 == some .gt || FloatKind.f32.format.order lo 0 == some .eq) <;> rw [h6] at h
  case' true.true.true.true.true.true => cases h7 : (FloatKind.f32.format.order lo 1065353216 == some .lt || FloatKind.f32.format.order lo 1065353216 == some .eq) <;> rw [h7] at h
  case' true.true.true.true.true.true.true => simp only [Bool.true_and] at h; have h8 := h
  all_goals
    clear h
    go_enter Try.func29, Try.ntmps29
    go_wp2_with (first | (go_at_call 58; refine (c_l00In _ _ _ _).mono ?_; rintro e w' ⟨rfl, n1, rfl⟩) | (go_at_call 80; refine (c_l01Finite _ _).mono ?_; rintro e w' ⟨rfl, n1, rfl⟩))
    refine bodyPost_ret (v := ?v) (by simp [results, Try.results29, go_sem, *] <;> rfl) rfl ?_
    exact NewBow.zero (by (repeat (first | (with_reducible refine Below.drewN ?_) | (with_reducible refine Below.drew ?_) | ((with_reducible refine Below.alloc ?_ ?_ _); rotate_left; (first | omega | (simp <;> omega))) | ((with_reducible refine Below.setCell ?_ ?_ _); rotate_left; (first | omega | (simp <;> omega))) | ((with_reducible refine Below.setCells ?_ ?_ _); rotate_left; (first | omega | (simp <;> omega))) | (with_reducible exact Below.refl _ _) | (with_reducible assumption))))
def bowN (p m : Nat) : Nat := max 1 (min (p - 1) m)
theorem c_l00Min (a b : Int) (w : World) : Calls Try.prog 83 #[.int .i64 a, .int .i64 b] w (RetI .i64 (min a b) w) := by
  by_cases h : a < b
  · rw [show min a b = a by omega]
    go_enter Try.func83, Try.ntmps83
    go_wp2
    go_ret
    exact ⟨rfl, 0, rfl⟩
  · rw [show min a b = b by omega]
    go_enter Try.func83, Try.ntmps83
    go_wp2
    go_ret
    exact ⟨rfl, 0, rfl⟩
theorem c_l00Max (a b : Int) (w : World) : Calls Try.prog 82 #[.int .i64 a, .int .i64 b] w (RetI .i64 (max a b) w) := by
  by_cases h : a > b
  · rw [show max a b = a by omega]
    go_enter Try.func82, Try.ntmps82
    go_wp2
    go_ret
    exact ⟨rfl, 0, rfl⟩
  · rw [show max a b = b by omega]
    go_enter Try.func82, Try.ntmps82
    go_wp2
    go_ret
    exact ⟨rfl, 0, rfl⟩
theorem c_NewBow_ok (p m : Nat) (pl ke lo sl : Nat) (w : World) (h : newBowB p pl ke lo sl = true) (hm : m ≤ 1024) (hX : isNaN .f32 (fop .mul .f32 pl (floatOfInt .f32 (p : Int))) = false) (hW : isNaN .f64 (bowX p pl) = false) (hI : floatToIntVal .f64 (bowX p pl) .i64 = some (m : Int)) :
    Calls Try.prog 30 #[.int .i64 p, .float .f32 pl, .float .f32 ke, .float .f32 lo, .float .f32 sl] w (newBowR p (bowN p m) ke lo sl w) := by
  unfold newBowB at h
  simp only [Bool.and_eq_true] at h
  obtain ⟨h1, h2, h3, h4, h5⟩ := h
  have t1 := inB_yes h1
  have hi : ∀ w, (convert 90 2 (.float .f64 (bowX p pl))).run Try.prog w = .ok (.int .i64 m) w := fun w =>
    run_convert_float_int w _ _ _ _ _ _ (by rw [Try.underlying90]; rfl) Try.underlying2 hI
  have hnv : ∀ t, nv .f64 (bowX p pl) t = bowX p pl := fun t => nv_of t hW
  unfold bowX at hi hnv
  rw [mul_comm_f] at hX hi hnv
  obtain ⟨M, hM⟩ : ∃ M : Nat, M = max m 1 := ⟨_, rfl⟩
  obtain ⟨N, hN⟩ : ∃ N : Nat, N = bowN p m := ⟨_, rfl⟩
  have hmax : (if (m : Int) < 1 then (1 : Int) else (m : Int)) = (M : Int) := by split <;> omega
  have hmin : (if (p : Int) - 1 < (M : Int) then (p : Int) - 1 else (M : Int)) = (N : Int) := by unfold bowN at hN; split <;> omega
  have N1 : 1 ≤ N ∧ N + 1 ≤ p := by unfold bowN at hN; omega
  obtain ⟨L, hL⟩ : ∃ L : Nat, L = p - N := ⟨_, rfl⟩
  have hsub : (p : Int) - (N : Int) = (L : Int) := by omega
  have L1 : 1 ≤ L ∧ L ≤ 1024 := by omega
  have N2 : N ≤ 1024 := by omega
  rw [← hN]
  unfold newBowR
  rw [← hL]
  clear hM hN hL hm hI hW
  go_enter Try.func30, Try.ntmps30
  go_wp2_with (first | (go_at_call 61; refine (c_within _ _ _ _).mono ?_; rintro e w' ⟨rfl, n1, rfl⟩) | (go_at_call 62; refine (c_isKeep _ _).mono ?_; rintro e w' ⟨rfl, n1, rfl⟩) | (go_at_call 63; refine (c_inside _ _ _ _).mono ?_; rintro e w' ⟨rfl, n1, rfl⟩) | (go_at_call 84; refine (c_isFinite _ _).mono ?_; rintro e w' ⟨rfl, n1, rfl⟩) | (go_at_call 81; refine (c_Floor _ _ (by simp only [isNaN_nv, isNaN_up, hX])).mono ?_; rintro e w' ⟨t2, n2, rfl, rfl⟩))
  try rw [hsub]
  refine (c_NewRing L _ (by omega) (by omega)).mono ?_
  rintro e w1 ⟨g1, rfl, hb1, hg1, hz1, ho1⟩
  have k1 : blkAt w1 w.heap.size = some (.cells #[.slice none 0 0, .int .i64 0, .slice none 0 0, .int .i64 0, .int .i64 0, .float .f32 0, .float .f32 0, .float .f32 0, .float .f32 0, .float .f32 0, .float .f32 0, .float .f32 0] 44) :=
    (hb1.block w.heap.size (by simp)).trans ((blk_drew _ _ _).trans (blk_alloc_at _ _ _ (by simp)))
  have zw1 : w.heap.size < w1.heap.size := (Array.getElem?_eq_some_iff.1 (show w1.heap[w.heap.size]? = _ from k1)).1
  have b1 : Below w.heap.size w w1 := Below.trans (b := (w.alloc _).drewN _) (by (repeat (first | (with_reducible refine Below.drewN ?_) | (with_reducible refine Below.drew ?_) | ((with_reducible refine Below.alloc ?_ ?_ _); rotate_left; (first | omega | (simp <;> omega))) | ((with_reducible refine Below.setCell ?_ ?_ _); rotate_left; (first | omega | (simp <;> omega))) | (with_reducible exact Below.refl _ _) | (with_reducible assumption)))) (Below.mono hb1 (by simp))
  have n1 : w.heap.size < g1 := by simp at hg1; omega
  clear h1 h2 h3 h4 h5 hb1 hg1 hi hnv hX hmax hmin hsub
  generalize (w.alloc _).drewN _ = w0 at *
  go_wp2_with fail
  refine (c_NewRing N _ (by omega) (by omega)).mono ?_
  rintro e w2 ⟨g2, rfl, hb2, hg2, hz2, ho2⟩
  have k2 := (hb2.block w.heap.size (by simp; omega)).trans ((blk_alloc_ne _ _ _ zw1).trans k1)
  have r1 := (hb2.block w1.heap.size (by simp)).trans (blk_alloc _ _)
  have zw2 : w1.heap.size < w2.heap.size := by have := hb2.size; simp at this; omega
  have o1 := (ho1.alloc (.cells #[.slice (some ⟨g1, 0, none⟩) L L, .int .i64 0] 25)).below hb2 (Nat.le_refl _)
  have n2 : w1.heap.size < g2 := by simp at hg2; omega
  have b2 : Below w.heap.size w w2 := Below.trans (Below.alloc b1 (by omega) _) (hb2.mono (by simp; omega))
  clear k1 ho1 hb2 hg2 b1
  go_wp2_with fail
  have k3 := (blk_alloc_ne w2 (.cells #[.slice (some ⟨g2, 0, none⟩) N N, .int .i64 0] 25) w.heap.size (by omega)).trans k2
  have r1' := (blk_alloc_ne w2 (.cells #[.slice (some ⟨g2, 0, none⟩) N N, .int .i64 0] 25) w1.heap.size (by omega)).trans r1
  have r2 := blk_alloc w2 (.cells #[.slice (some ⟨g2, 0, none⟩) N N, .int .i64 0] 25)
  have b3 := Below.alloc b2 (by omega) (.cells #[.slice (some ⟨g2, 0, none⟩) N N, .int .i64 0] 25)
  have o1' := o1.alloc (.cells #[.slice (some ⟨g2, 0, none⟩) N N, .int .i64 0] 25)
  have o2' := ho2.alloc (.cells #[.slice (some ⟨g2, 0, none⟩) N N, .int .i64 0] 25)
  have zw3 : w2.heap.size < (w2.alloc (.cells #[.slice (some ⟨g2, 0, none⟩) N N, .int .i64 0] 25)).heap.size := by simp
  clear k2 r1 b2 o1 ho2
  generalize w2.alloc (.cells #[.slice (some ⟨g2, 0, none⟩) N N, .int .i64 0] 25) = W2 at *
  have c10 := cell_block (show W2.heap[w1.heap.size]? = _ from r1') 0
  have c11 := cell_block (show W2.heap[w1.heap.size]? = _ from r1') 1
  have c20 := cell_block (show W2.heap[w2.heap.size]? = _ from r2) 0
  have c21 := cell_block (show W2.heap[w2.heap.size]? = _ from r2) 1
  simp at c10 c11 c20 c21
  have z1 : w1.heap.size < W2.heap.size := by omega
  clear r1' r2
  (refine D.wp_region_pre 7 [] [] (by kernel_rfl) (by simp) (by kernel_rfl) (by kernel_rfl) (by kernel_rfl) ?_; simp only [List.take_succ_cons, List.take_zero]; apply Exists.intro)
  iterate 3 (apply D.lh_o; kernel_rfl; kernel_rfl; kernel_rfl; (intro W hW; have hWc := Grow.cells hW; go_simp; exact ⟨OneV.mk _, Grow.refl _⟩))
  (apply D.lh_v (fun t : Nat => Value.agg #[.int .i64 1, .float .f32 (nv .f32 (fop .sub .f32 1065353216 ke) t), .float .f32 ke, .float .f32 0, .float .f32 0, .float .f32 0]) 0; kernel_rfl; kernel_rfl; kernel_rfl; (intro W hW; go_simp; exact (c_OnePole _ _).mono fun e w' ⟨t, he, hb⟩ => ⟨⟨t, he⟩, hb⟩); intro tp)
  (apply D.lh_o; kernel_rfl; kernel_rfl; kernel_rfl; (intro W hW; have hWc := Grow.cells hW; go_simp; exact ⟨OneV.mk _, Grow.refl _⟩))
  (apply D.lh_o; kernel_rfl; kernel_rfl; kernel_rfl; (intro W hW; have hWc := Grow.cells hW; go_simp; exact ⟨OneV.mk _, Grow.refl _⟩))
  (apply D.lh_d; kernel_rfl; kernel_rfl; kernel_rfl; (intro W hW; go_simp; exact ⟨OneV.mk _, Grow.refl _⟩))
  refine D.lh_nil ?_
  intro W hG
  have kW : blkAt W w.heap.size = _ := (hG.block w.heap.size (by omega)).trans k3
  have hzW : w.heap.size < W.heap.size := by have := hG.size; omega
  have bW : Below w.heap.size w W := Below.trans b3 (Below.mono hG (by omega))
  have oW1 := o1'.below hG (Nat.le_refl _)
  have oW2 := o2'.below hG (Nat.le_refl _)
  have hW1 : g1 < W.heap.size := by have := hG.size; omega
  have hW2 : g2 < W.heap.size := by have := hG.size; omega
  clear hG c10 c11 c20 c21 k3
  simp only [Act.put, List.setIfInBounds_toArray, List.set_cons_succ, List.set_cons_zero]
  (refine wpAny_step (i := 7) (by kernel_rfl) rfl rfl (fun K hK => ?_); go_simp; refine hK _ _ ?_; clear hK; try simp only [Act.put, List.setIfInBounds_toArray, List.set_cons_succ, List.set_cons_zero])
  (refine wpAny_step (i := 8) (by kernel_rfl) rfl rfl (fun K hK => ?_); go_simp; refine hK _ _ ?_; clear hK; try simp only [Act.put, List.setIfInBounds_toArray, List.set_cons_succ, List.set_cons_zero])
  refine wpAny_end (by kernel_rfl) ?_
  go_wp2
  refine bodyPost_ret (v := ?v) (by simp [results, Try.results30, go_sem, *] <;> rfl) rfl ?_
  exact ⟨some ⟨g1, 0, none⟩, some ⟨g2, 0, none⟩, L, N, g1, g2, tp, 0, 0, 0, 0, 0, 0, rfl, by (repeat (first | (with_reducible refine Below.drewN ?_) | (with_reducible refine Below.drew ?_) | ((with_reducible refine Below.alloc ?_ ?_ _); rotate_left; (first | omega | (simp <;> omega))) | ((with_reducible refine Below.setCell ?_ ?_ _); rotate_left; (first | omega | (simp <;> omega))) | ((with_reducible refine Below.setCells ?_ ?_ _); rotate_left; (first | omega | (simp <;> omega))) | (with_reducible exact Below.refl _ _) | (with_reducible assumption))), fun _ => ⟨by omega, by rw [size_setCells]; exact hW1⟩, fun _ => ⟨by omega, by rw [size_setCells]; exact hW2⟩, by omega, by (repeat (first | (with_reducible assumption) | (with_reducible refine OF.draw ?_) | (with_reducible exact OF.made' (by simp) (by simp) (by omega)) | (with_reducible refine OF.alloc ?_ _) | ((with_reducible refine OF.setCells ?_ ?_ _); rotate_left; (first | omega | (simp <;> omega))) | ((with_reducible refine OF.setCell ?_ ?_ _); rotate_left; (first | omega | (simp <;> omega))))), by (repeat (first | (with_reducible assumption) | (with_reducible refine OF.draw ?_) | (with_reducible exact OF.made' (by simp) (by simp) (by omega)) | (with_reducible refine OF.alloc ?_ _) | ((with_reducible refine OF.setCells ?_ ?_ _); rotate_left; (first | omega | (simp <;> omega))) | ((with_reducible refine OF.setCell ?_ ?_ _); rotate_left; (first | omega | (simp <;> omega)))))⟩
theorem c_sNewBow_ok (p m : Nat) (pl ke lo sl : Nat) (w : World) (h : newBowB p pl ke lo sl = true) (hm : m ≤ 1024) (hX : isNaN .f32 (fop .mul .f32 pl (floatOfInt .f32 (p : Int))) = false) (hW : isNaN .f64 (bowX p pl) = false) (hI : floatToIntVal .f64 (bowX p pl) .i64 = some (m : Int)) :
    Calls Try.prog 29 #[.int .i64 p, .float .f32 pl, .float .f32 ke, .float .f32 lo, .float .f32 sl] w (newBowR p (bowN p m) ke lo sl w) := by
  unfold newBowB keepB insB at h
  simp only [Bool.and_eq_true] at h
  obtain ⟨h1, ⟨h2, h3⟩, ⟨h4, h5⟩, ⟨h6, h7⟩, h8⟩ := h
  have t1 := inB_yes h1
  have hi : ∀ w, (convert 90 2 (.float .f64 (bowX p pl))).run Try.prog w = .ok (.int .i64 m) w := fun w =>
    run_convert_float_int w _ _ _ _ _ _ (by rw [Try.underlying90]; rfl) Try.underlying2 hI
  have hnv : ∀ t, nv .f64 (bowX p pl) t = bowX p pl := fun t => nv_of t hW
  unfold bowX at hi hnv
  obtain ⟨M, hM⟩ : ∃ M : Nat, M = min (p - 1) m := ⟨_, rfl⟩
  obtain ⟨N, hN⟩ : ∃ N : Nat, N = bowN p m := ⟨_, rfl⟩
  have hmin : min ((p : Int) - 1) (m : Int) = (M : Int) := by omega
  have hmax : max (1 : Int) (M : Int) = (N : Int) := by unfold bowN at hN; omega
  have N1 : 1 ≤ N ∧ N + 1 ≤ p := by unfold bowN at hN; omega
  obtain ⟨L, hL⟩ : ∃ L : Nat, L = p - N := ⟨_, rfl⟩
  have hsub : (p : Int) - (N : Int) = (L : Int) := by omega
  have L1 : 1 ≤ L ∧ L ≤ 1024 := by omega
  have N2 : N ≤ 1024 := by omega
  have hwr : IntKind.i64.wrap (L : Int) = (L : Int) := IntWalk.i64_in _ (by omega)
  have HM1 := Lib.hid (mk_f32 L (by omega))
  have HM2 := Lib.hid (mk_f32 N (by omega))
  rw [← hN]
  unfold newBowR
  rw [← hL]
  clear hM hN hL hm hI hW
  go_enter Try.func29, Try.ntmps29
  go_wp2_with (first | (go_at_call 58; refine (c_l00In _ _ _ _).mono ?_; rintro e w' ⟨rfl, n1, rfl⟩) | (go_at_call 80; refine (c_l01Finite _ _).mono ?_; rintro e w' ⟨rfl, n1, rfl⟩) | (go_at_call 81; refine (c_Floor _ _ (by simp only [isNaN_nv, isNaN_up, hX])).mono ?_; rintro e w' ⟨t2, n2, rfl, rfl⟩) | (go_at_call 83; refine (c_l00Min _ _ _).mono ?_; rintro e w' ⟨rfl, n3, rfl⟩) | (go_at_call 82; refine (c_l00Max _ _ _).mono ?_; rintro e w' ⟨rfl, n4, rfl⟩))
  clear h1 h2 h3 h4 h5 h6 h7 h8 hi hnv hX hmax hmin
  have hm1 := HM1.out
  have hm2 := HM2.out
  (refine D.wp_region_pre 13 [] [3, 6] (by kernel_rfl) (by simp) (by kernel_rfl) (by kernel_rfl) (by kernel_rfl) ?_; simp only [List.take_succ_cons, List.take_zero]; apply Exists.intro)
  (apply D.lh_o; kernel_rfl; kernel_rfl; kernel_rfl; (intro W hW; have hWc := Grow.cells hW; go_simp; exact ⟨OneV.mk _, Grow.refl _⟩))
  (apply D.lh_o; kernel_rfl; kernel_rfl; kernel_rfl; (intro W hW; have hWc := Grow.cells hW; go_simp; exact ⟨OneV.mk _, Grow.refl _⟩))
  (apply D.lh_o; kernel_rfl; kernel_rfl; kernel_rfl; (intro W hW; have hWc := Grow.cells hW; go_simp; (try rw [hsub]); exact ⟨OneV.mk _, Grow.refl _⟩))
  (apply D.lh_new; kernel_rfl; kernel_rfl; kernel_rfl; (intro W hW; have hWc := Grow.cells hW; go_simp; exact ⟨NewAt.mk _ _ _ _, Grow.alloc _ _⟩); intro g hfr)
  revert g; intro g1 hg1'
  (apply D.lh_d; kernel_rfl; kernel_rfl; kernel_rfl; (intro W hW; go_simp; exact ⟨OneV.mk _, Grow.refl _⟩))
  (apply D.lh_o; kernel_rfl; kernel_rfl; kernel_rfl; (intro W hW; have hWc := Grow.cells hW; go_simp; exact ⟨OneV.mk _, Grow.refl _⟩))
  (apply D.lh_new; kernel_rfl; kernel_rfl; kernel_rfl; (intro W hW; have hWc := Grow.cells hW; go_simp; exact ⟨NewAt.mk _ _ _ _, Grow.alloc _ _⟩); intro g hfr)
  revert g; intro g2 hg2'
  (apply D.lh_d; kernel_rfl; kernel_rfl; kernel_rfl; (intro W hW; go_simp; exact ⟨OneV.mk _, Grow.refl _⟩))
  (apply D.lh_o; kernel_rfl; kernel_rfl; kernel_rfl; (intro W hW; have hWc := Grow.cells hW; go_simp; exact ⟨OneV.mk _, Grow.refl _⟩))
  (apply D.lh_v (fun t : Nat => Value.agg #[.int .i64 1, .float .f32 (nv .f32 (fop .sub .f32 1065353216 ke) t), .float .f32 ke, .float .f32 0, .float .f32 0, .float .f32 0]) 0; kernel_rfl; kernel_rfl; kernel_rfl; (intro W hW; go_simp; exact (c_sOnePole _ _).mono fun e w' ⟨t, he, hb⟩ => ⟨⟨t, he⟩, hb⟩); intro tp)
  (apply D.lh_o; kernel_rfl; kernel_rfl; kernel_rfl; (intro W hW; have hWc := Grow.cells hW; go_simp; exact ⟨OneV.mk _, Grow.refl _⟩))
  (apply D.lh_o; kernel_rfl; kernel_rfl; kernel_rfl; (intro W hW; have hWc := Grow.cells hW; go_simp; exact ⟨OneV.mk _, Grow.refl _⟩))
  (apply D.lh_d; kernel_rfl; kernel_rfl; kernel_rfl; (intro W hW; go_simp; exact ⟨OneV.mk _, Grow.refl _⟩))
  refine D.lh_nil ?_
  intro W hW
  obtain ⟨⟨hG, hg1⟩, hg2⟩ := hW
  have ho1 := OF.of_block (n := L) hg1 (by simp) (by omega)
  have ho2 := OF.of_block (n := N) hg2 (by simp) (by omega)
  have hz1 : g1 < W.heap.size := (Array.getElem?_eq_some_iff.1 hg1).1
  have hz2 : g2 < W.heap.size := (Array.getElem?_eq_some_iff.1 hg2).1
  have kW : blkAt W w.heap.size = some (.cells #[.slice none 0 0, .int .i64 0, .slice none 0 0, .int .i64 0, .int .i64 0, .float .f32 0, .float .f32 0, .float .f32 0, .float .f32 0, .float .f32 0, .float .f32 0, .float .f32 0] 44) :=
    (hG.block w.heap.size (by simp)).trans ((blk_drew _ _ _).trans (blk_alloc_at _ _ _ (by simp)))
  have hzW : w.heap.size < W.heap.size := (Array.getElem?_eq_some_iff.1 (show W.heap[w.heap.size]? = _ from kW)).1
  have bW : Below w.heap.size w W := Below.trans (b := (w.alloc _).drewN _) (by (repeat (first | (with_reducible refine Below.drewN ?_) | (with_reducible refine Below.drew ?_) | ((with_reducible refine Below.alloc ?_ ?_ _); rotate_left; (first | omega | (simp <;> omega))) | ((with_reducible refine Below.setCell ?_ ?_ _); rotate_left; (first | omega | (simp <;> omega))) | (with_reducible exact Below.refl _ _) | (with_reducible assumption)))) (Below.mono hG (by simp))
  have hn1 : ¬ g1 < w.heap.size + 1 := by simpa using hg1'
  have hn2 : ¬ (g1 = g2 ∨ g2 < w.heap.size + 1) := by simpa using hg2'
  clear hG hg1 hg2
  generalize (w.alloc _).drewN _ = w0 at *
  simp only [Act.put, List.setIfInBounds_toArray, List.set_cons_succ, List.set_cons_zero]
  (refine wpAny_step (i := 13) (by kernel_rfl) rfl rfl (fun K hK => ?_); go_simp; refine hK _ _ ?_; clear hK; try simp only [Act.put, List.setIfInBounds_toArray, List.set_cons_succ, List.set_cons_zero])
  (refine wpAny_step (i := 14) (by kernel_rfl) rfl rfl (fun K hK => ?_); go_simp; refine hK _ _ ?_; clear hK; try simp only [Act.put, List.setIfInBounds_toArray, List.set_cons_succ, List.set_cons_zero])
  refine wpAny_end (by kernel_rfl) ?_
  go_wp2
  refine bodyPost_ret (v := ?v) (by simp [results, Try.results29, go_sem, *] <;> rfl) rfl ?_
  exact ⟨some ⟨g1, 0, none⟩, some ⟨g2, 0, none⟩, L, N, g1, g2, tp, 0, 0, 0, 0, 0, 0, rfl, by (repeat (first | (with_reducible refine Below.drewN ?_) | (with_reducible refine Below.drew ?_) | ((with_reducible refine Below.alloc ?_ ?_ _); rotate_left; (first | omega | (simp <;> omega))) | ((with_reducible refine Below.setCell ?_ ?_ _); rotate_left; (first | omega | (simp <;> omega))) | ((with_reducible refine Below.setCells ?_ ?_ _); rotate_left; (first | omega | (simp <;> omega))) | (with_reducible exact Below.refl _ _) | (with_reducible assumption))), fun _ => ⟨by omega, by rw [size_setCells]; exact hz1⟩, fun _ => ⟨by omega, by rw [size_setCells]; exact hz2⟩, fun h => hn2 (Or.inl h), by (repeat (first | (with_reducible assumption) | (with_reducible refine OF.draw ?_) | (with_reducible exact OF.made' (by simp) (by simp) (by omega)) | (with_reducible refine OF.alloc ?_ _) | ((with_reducible refine OF.setCells ?_ ?_ _); rotate_left; (first | omega | (simp <;> omega))) | ((with_reducible refine OF.setCell ?_ ?_ _); rotate_left; (first | omega | (simp <;> omega))))), by (repeat (first | (with_reducible assumption) | (with_reducible refine OF.draw ?_) | (with_reducible exact OF.made' (by simp) (by simp) (by omega)) | (with_reducible refine OF.alloc ?_ _) | ((with_reducible refine OF.setCells ?_ ?_ _); rotate_left; (first | omega | (simp <;> omega))) | ((with_reducible refine OF.setCell ?_ ?_ _); rotate_left; (first | omega | (simp <;> omega)))))⟩
end Go.Proofs.Ytbkafmikaojclaa
