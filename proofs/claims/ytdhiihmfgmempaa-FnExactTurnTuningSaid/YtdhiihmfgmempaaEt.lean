
/-
Tunings with equal steps.
-/
import Derived.Test.YtdhiihmfgmempaaAp
import Derived.Test.YtdhiihmfgmempaaTv
namespace Go.Proofs.Ytdhiihmfgmempaa
open Go Go.RowKit Fl
def edV (s k : Nat) : Nat := fop .quo .f32 (floatOfInt .f32 (1200 * (k : Int))) (floatOfInt .f32 (s : Int))
def edP (s k : Nat) : List Nat := (List.range k).map (edV s)
theorem edP_succ (s k : Nat) : edP s (k + 1) = edP s k ++ [edV s k] := by unfold edP; rw [List.range_succ, List.map_append]; rfl
theorem int32_lt {m : Nat} (h : m ≤ 100000) : floatOfInt .f32 (m : Int) < FloatKind.f32.format.infRung :=
  Nat.lt_of_le_of_lt (floatOfInt_mono (k := .f32) (n := m) (N := 100000) (by omega) (by omega)) (by decide +kernel)
theorem int32_pos {m : Nat} (h : 1 ≤ m) : floatOfInt .f32 (m : Int) ≠ 0 := by
  have := floatOfInt_mono (k := .f32) (n := 1) (N := m) (by omega) (by omega)
  have e : floatOfInt .f32 1 = 1065353216 := by decide +kernel
  omega
theorem edV_nan {s k : Nat} (hs : 1 ≤ s) (hs2 : s ≤ 31) (hk : k ≤ 31) : isNaN .f32 (edV s k) = false := by
  unfold edV
  refine isNaN_pos (fquo_inf ?_ (int32_lt (by omega)) (int32_pos hs))
  rw [show (1200 * (k : Int)) = ((1200 * k : Nat) : Int) by omega]
  exact int32_lt (by omega)
theorem mul1200_all : ∀ k : Fin 32, fop .mul .f32 1150681088 (floatOfInt .f32 (k.val : Int)) = floatOfInt .f32 (1200 * (k.val : Int)) := by decide +kernel
theorem mul1200 {k : Nat} (h : k < 32) : fop .mul .f32 1150681088 (floatOfInt .f32 (k : Int)) = floatOfInt .f32 (1200 * (k : Int)) := mul1200_all ⟨k, h⟩
theorem TB.start {w0 W : World} {b ba oc : Nat} (h : Below w0.heap.size w0 W) (hb : w0.heap.size ≤ b) (hblk : blkAt W b = some (.cells #[.float .f32 ba, .float .f32 oc, .slice none 0 0] 31)) : TB w0 W b ba oc none 0 0 0 [] :=
  ⟨h, hb, hblk, Room.nil _ _ _, fun h => absurd h (by omega)⟩
theorem c_EqualTuning_no (ba : Nat) (st : Int) (w : World) (h : (insB ba 1065353216 1184645120 && inB st 1 31) = false) :
    Calls Try.prog 22 #[.float .f32 ba, .int .i64 st] w (NewTuning 0 0 0 [] 2 w) := by
  cases h1 : insB ba 1065353216 1184645120
  · go_enter Try.func22, Try.ntmps22
    go_wp2_with (go_at_call 73; refine (c_isBase _ _).mono ?_; rw [h1]; rintro e w' ⟨rfl, n1, rfl⟩)
    refine bodyPost_ret (v := ?v) (by simp [results, Try.results22, go_sem, *] <;> rfl) rfl ?_
    exact ⟨none, 0, 0, 0, 0, rfl, by (repeat (first | (with_reducible refine Below.drewN ?_) | (with_reducible refine Below.drew ?_) | ((with_reducible refine Below.alloc ?_ ?_ _); rotate_left; (first | omega | (simp <;> omega))) | ((with_reducible refine Below.setCell ?_ ?_ _); rotate_left; (first | omega | (simp <;> omega))) | (with_reducible exact Below.refl _ _) | (with_reducible assumption))), by omega, OF.nil _ _⟩
  · rw [h1, Bool.true_and] at h
    go_enter Try.func22, Try.ntmps22
    go_wp2_with (first | (go_at_call 73; refine (c_isBase _ _).mono ?_; rw [h1]; rintro e w' ⟨rfl, n1, rfl⟩) | (go_at_call 74; refine (c_within _ _ _ _).mono ?_; rw [h]; rintro e w' ⟨rfl, n1, rfl⟩))
    refine bodyPost_ret (v := ?v) (by simp [results, Try.results22, go_sem, *] <;> rfl) rfl ?_
    exact ⟨none, 0, 0, 0, 0, rfl, by (repeat (first | (with_reducible refine Below.drewN ?_) | (with_reducible refine Below.drew ?_) | ((with_reducible refine Below.alloc ?_ ?_ _); rotate_left; (first | omega | (simp <;> omega))) | ((with_reducible refine Below.setCell ?_ ?_ _); rotate_left; (first | omega | (simp <;> omega))) | (with_reducible exact Below.refl _ _) | (with_reducible assumption))), by omega, OF.nil _ _⟩
set_option maxRecDepth 10000 in
set_option maxHeartbeats 1000000 in
theorem c_EqualTuning_ok (ba st : Nat) (w : World) (h1 : insB ba 1065353216 1184645120 = true) (hs : 1 ≤ st) (hs2 : st ≤ 31) :
    Calls Try.prog 22 #[.float .f32 ba, .int .i64 st] w (NewTuning ba 1150681088 st (edP st st) 0 w) := by
  have h2 : inB (st : Int) 1 31 = true := by unfold inB; rw [decide_eq_true (show (1 : Int) ≤ st by omega), decide_eq_true (show (st : Int) ≤ 31 by omega)]; rfl
  go_enter Try.func22, Try.ntmps22
  go_wp2_with (first | (go_at_call 73; refine (c_isBase _ _).mono ?_; rw [h1]; rintro e w' ⟨rfl, m1, rfl⟩) | (go_at_call 74; refine (c_within _ _ _ _).mono ?_; rw [h2]; rintro e w' ⟨rfl, m2, rfl⟩))
  have T0 : TB (w.alloc (.cells #[.float .f32 0, .float .f32 0, .slice none 0 0] 31)) (((w.alloc (.cells #[.float .f32 0, .float .f32 0, .slice none 0 0] 31)).drewN (m1 + m2)).alloc (.cells #[.float .f32 ba, .float .f32 1150681088, .slice none 0 0] 31)) (w.heap.size + 1) ba 1150681088 none 0 0 0 [] := TB.start (by (repeat (first | (with_reducible refine Below.drewN ?_) | (with_reducible refine Below.drew ?_) | ((with_reducible refine Below.alloc ?_ ?_ _); rotate_left; (first | omega | (simp <;> omega))) | ((with_reducible refine Below.setCell ?_ ?_ _); rotate_left; (first | omega | (simp <;> omega))) | (with_reducible exact Below.refl _ _) | (with_reducible assumption)))) (by simp) (by simp [go_sem])
  go_loopw [20] (fun i wr => ∃ (k : Nat) (a : Option Addr) (c g : Nat), k ≤ st ∧ i = .int .i64 k ∧ TB (w.alloc (.cells #[.float .f32 0, .float .f32 0, .slice none 0 0] 31)) wr (w.heap.size + 1) ba 1150681088 a k c g (edP st k)) (fun i _ => st - (intOf i).toNat)
  case atStart => exact ⟨0, _, _, _, by omega, rfl, T0⟩
  case round =>
    clear T0
    obtain ⟨k, a, c, g, hk, rfl, hT⟩ := hrel
    obtain ⟨e0, e1, e2, f2⟩ := hT.cells
    by_cases hlt : k < st
    · have hE : fop .quo .f32 (floatOfInt .f32 (1200 * (k : Int))) (floatOfInt .f32 (st : Int)) = edV st k := rfl
      have hn := edV_nan (s := st) (k := k) (by omega) (by omega) (by omega)
      have hv : ∀ t, nv .f32 (edV st k) t = edV st k := fun t => nv_of t hn
      have hd : dn .f32 (edV st k) = 0 := by unfold dn; rw [hn]; rfl
      have g1 : IntKind.i64.wrap (1200 * (k : Int)) = 1200 * (k : Int) := IntWalk.i64_in _ (by omega)
      have HP := Lib.hid (edP_succ st k)
      obtain ⟨a', c', g', W', hap, ⟨hcW, hfW⟩, hT'⟩ := hT.step (by omega) ((wr.drewN 0).alloc (.cells #[.float .f32 (edV st k)] 22)) (Below.alloc (below_drewN (Below.refl _ _) 0) (Nat.le_refl _) _) wr.heap.size (edV st k) (cell_blk (blk_alloc (wr.drewN 0) _) 0)
      generalize edV st k = V at *
      go_wp2
      go_roundw
      case rel => exact ⟨k + 1, a', c', g', by omega, by go_num, by rw [HP.out]; exact hT'⟩
      case measure => simp [intOf]; omega
    · obtain rfl : k = st := by omega
      have hz : blkAt wr w.heap.size = some (.cells #[.float .f32 0, .float .f32 0, .slice none 0 0] 31) := (hT.below.block w.heap.size (by simp)).trans (blk_alloc _ _)
      have d0 := cell_blk hz 0
      have d1 := cell_blk hz 1
      have d2 := cell_blk hz 2
      have f0 := frozen_blk hz 0
      have f1 := frozen_blk hz 1
      have f3 := frozen_blk hz 2
      have hR := Lib.hid hT.room.of
      have hB := Lib.hid hT.below
      have hO := Lib.hid hT.own
      have hL := Lib.hid (fun h => hT.room.lt h)
      have hC := Lib.hid hT.room.le
      simp at d0 d1 d2
      clear hT hz
      go_wp2
      refine bodyPost_ret (v := ?v) (by simp [results, Try.results22, go_sem, *] <;> rfl) rfl ?_
      have hB' : Below w.heap.size w wr := Below.trans (by (repeat (first | (with_reducible refine Below.drewN ?_) | (with_reducible refine Below.drew ?_) | ((with_reducible refine Below.alloc ?_ ?_ _); rotate_left; (first | omega | (simp <;> omega))) | ((with_reducible refine Below.setCell ?_ ?_ _); rotate_left; (first | omega | (simp <;> omega))) | (with_reducible exact Below.refl _ _) | (with_reducible assumption)))) (hB.out.mono (by simp))
      have hc0 : 0 < c := by have := hC.out; omega
      have ho := hO.out hc0
      have hg : w.heap.size < g := by have := ho.2; simp at this; omega
      have hg2 : g ≠ w.heap.size := by omega
      have hR' := hR.out
      exact ⟨a, c, g, 0, 0, rfl, by (repeat (first | (with_reducible refine Below.drewN ?_) | (with_reducible refine Below.drew ?_) | ((with_reducible refine Below.alloc ?_ ?_ _); rotate_left; (first | omega | (simp <;> omega))) | ((with_reducible refine Below.setCell ?_ ?_ _); rotate_left; (first | omega | (simp <;> omega))) | (with_reducible exact Below.refl _ _) | (with_reducible assumption))), fun _ => ⟨by omega, by simpa using hL.out hc0⟩, by (repeat (first | (with_reducible assumption) | (with_reducible refine OF.draw ?_) | (with_reducible exact OF.made' (by simp) (by simp) (by omega)) | (with_reducible refine OF.alloc ?_ _) | ((with_reducible refine OF.setCell ?_ ?_ _); rotate_left; (first | omega | (simp <;> omega)))))⟩
theorem c_sEqualTuning_no (ba : Nat) (st : Int) (w : World) (h : (insB ba 1065353216 1184645120 && inB st 1 31) = false) :
    Calls Try.prog 21 #[.float .f32 ba, .int .i64 st] w (NewTuning 0 0 0 [] 2 w) := by
  cases h1 : insB ba 1065353216 1184645120
  · go_enter Try.func21, Try.ntmps21
    go_wp2_with (go_at_call 71; refine (c_l07Base _ _).mono ?_; rw [h1]; rintro e w' ⟨rfl, n1, rfl⟩)
    refine bodyPost_ret (v := ?v) (by simp [results, Try.results21, go_sem, *] <;> rfl) rfl ?_
    exact ⟨none, 0, 0, 0, 0, rfl, by (repeat (first | (with_reducible refine Below.drewN ?_) | (with_reducible refine Below.drew ?_) | ((with_reducible refine Below.alloc ?_ ?_ _); rotate_left; (first | omega | (simp <;> omega))) | ((with_reducible refine Below.setCell ?_ ?_ _); rotate_left; (first | omega | (simp <;> omega))) | (with_reducible exact Below.refl _ _) | (with_reducible assumption))), by omega, OF.nil _ _⟩
  · rw [h1, Bool.true_and] at h
    go_enter Try.func21, Try.ntmps21
    go_wp2_with (first | (go_at_call 71; refine (c_l07Base _ _).mono ?_; rw [h1]; rintro e w' ⟨rfl, n1, rfl⟩) | (go_at_call 72; refine (c_l00In _ _ _ _).mono ?_; rw [h]; rintro e w' ⟨rfl, n1, rfl⟩))
    refine bodyPost_ret (v := ?v) (by simp [results, Try.results21, go_sem, *] <;> rfl) rfl ?_
    exact ⟨none, 0, 0, 0, 0, rfl, by (repeat (first | (with_reducible refine Below.drewN ?_) | (with_reducible refine Below.drew ?_) | ((with_reducible refine Below.alloc ?_ ?_ _); rotate_left; (first | omega | (simp <;> omega))) | ((with_reducible refine Below.setCell ?_ ?_ _); rotate_left; (first | omega | (simp <;> omega))) | (with_reducible exact Below.refl _ _) | (with_reducible assumption))), by omega, OF.nil _ _⟩
set_option maxRecDepth 10000 in
set_option maxHeartbeats 1000000 in
theorem c_sEqualTuning_ok (ba st : Nat) (w : World) (h1 : insB ba 1065353216 1184645120 = true) (hs : 1 ≤ st) (hs2 : st ≤ 31) :
    Calls Try.prog 21 #[.float .f32 ba, .int .i64 st] w (NewTuning ba 1150681088 st (edP st st) 0 w) := by
  have h2 : inB (st : Int) 1 31 = true := by unfold inB; rw [decide_eq_true (show (1 : Int) ≤ st by omega), decide_eq_true (show (st : Int) ≤ 31 by omega)]; rfl
  go_enter Try.func21, Try.ntmps21
  go_wp2_with (first | (go_at_call 71; refine (c_l07Base _ _).mono ?_; rw [h1]; rintro e w' ⟨rfl, m1, rfl⟩) | (go_at_call 72; refine (c_l00In _ _ _ _).mono ?_; rw [h2]; rintro e w' ⟨rfl, m2, rfl⟩))
  have T0 : TB (w.alloc (.cells #[.float .f32 0, .float .f32 0, .slice none 0 0] 31)) (((w.alloc (.cells #[.float .f32 0, .float .f32 0, .slice none 0 0] 31)).drewN (m1 + m2)).alloc (.cells #[.float .f32 ba, .float .f32 1150681088, .slice none 0 0] 31)) (w.heap.size + 1) ba 1150681088 none 0 0 0 [] := TB.start (by (repeat (first | (with_reducible refine Below.drewN ?_) | (with_reducible refine Below.drew ?_) | ((with_reducible refine Below.alloc ?_ ?_ _); rotate_left; (first | omega | (simp <;> omega))) | ((with_reducible refine Below.setCell ?_ ?_ _); rotate_left; (first | omega | (simp <;> omega))) | (with_reducible exact Below.refl _ _) | (with_reducible assumption)))) (by simp) (by simp [go_sem])
  go_loopw [7] (fun i wr => ∃ (k : Nat) (a : Option Addr) (c g : Nat), k ≤ st ∧ i = .int .i64 k ∧ TB (w.alloc (.cells #[.float .f32 0, .float .f32 0, .slice none 0 0] 31)) wr (w.heap.size + 1) ba 1150681088 a k c g (edP st k)) (fun i _ => st - (intOf i).toNat)
  case atStart => exact ⟨0, _, _, _, by omega, rfl, T0⟩
  case round =>
    clear T0
    obtain ⟨k, a, c, g, hk, rfl, hT⟩ := hrel
    obtain ⟨e0, e1, e2, f2⟩ := hT.cells
    by_cases hlt : k < st
    · have hE : fop .quo .f32 (floatOfInt .f32 (1200 * (k : Int))) (floatOfInt .f32 (st : Int)) = edV st k := rfl
      have hn := edV_nan (s := st) (k := k) (by omega) (by omega) (by omega)
      have hM := mul1200 (k := k) (by omega)
      have hv : ∀ t, nv .f32 (edV st k) t = edV st k := fun t => nv_of t hn
      have hd : dn .f32 (edV st k) = 0 := by unfold dn; rw [hn]; rfl
      have g1 : IntKind.i64.wrap (1200 * (k : Int)) = 1200 * (k : Int) := IntWalk.i64_in _ (by omega)
      have HP := Lib.hid (edP_succ st k)
      obtain ⟨a', c', g', W', hap, ⟨hcW, hfW⟩, hT'⟩ := hT.step (by omega) ((wr.drewN 0).alloc (.cells #[.float .f32 (edV st k)] 22)) (Below.alloc (below_drewN (Below.refl _ _) 0) (Nat.le_refl _) _) wr.heap.size (edV st k) (cell_blk (blk_alloc (wr.drewN 0) _) 0)
      generalize edV st k = V at *
      go_wp2
      go_roundw
      case rel => exact ⟨k + 1, a', c', g', by omega, by go_num, by rw [HP.out]; exact hT'⟩
      case measure => simp [intOf]; omega
    · obtain rfl : k = st := by omega
      have hz : blkAt wr w.heap.size = some (.cells #[.float .f32 0, .float .f32 0, .slice none 0 0] 31) := (hT.below.block w.heap.size (by simp)).trans (blk_alloc _ _)
      have d0 := cell_blk hz 0
      have d1 := cell_blk hz 1
      have d2 := cell_blk hz 2
      have f0 := frozen_blk hz 0
      have f1 := frozen_blk hz 1
      have f3 := frozen_blk hz 2
      have hR := Lib.hid hT.room.of
      have hB := Lib.hid hT.below
      have hO := Lib.hid hT.own
      have hL := Lib.hid (fun h => hT.room.lt h)
      have hC := Lib.hid hT.room.le
      simp at d0 d1 d2
      clear hT hz
      go_wp2
      refine bodyPost_ret (v := ?v) (by simp [results, Try.results21, go_sem, *] <;> rfl) rfl ?_
      have hB' : Below w.heap.size w wr := Below.trans (by (repeat (first | (with_reducible refine Below.drewN ?_) | (with_reducible refine Below.drew ?_) | ((with_reducible refine Below.alloc ?_ ?_ _); rotate_left; (first | omega | (simp <;> omega))) | ((with_reducible refine Below.setCell ?_ ?_ _); rotate_left; (first | omega | (simp <;> omega))) | (with_reducible exact Below.refl _ _) | (with_reducible assumption)))) (hB.out.mono (by simp))
      have hc0 : 0 < c := by have := hC.out; omega
      have ho := hO.out hc0
      have hg : w.heap.size < g := by have := ho.2; simp at this; omega
      have hg2 : g ≠ w.heap.size := by omega
      have hR' := hR.out
      exact ⟨a, c, g, 0, 0, rfl, by (repeat (first | (with_reducible refine Below.drewN ?_) | (with_reducible refine Below.drew ?_) | ((with_reducible refine Below.alloc ?_ ?_ _); rotate_left; (first | omega | (simp <;> omega))) | ((with_reducible refine Below.setCell ?_ ?_ _); rotate_left; (first | omega | (simp <;> omega))) | (with_reducible exact Below.refl _ _) | (with_reducible assumption))), fun _ => ⟨by omega, by simpa using hL.out hc0⟩, by (repeat (first | (with_reducible assumption) | (with_reducible refine OF.draw ?_) | (with_reducible exact OF.made' (by simp) (by simp) (by omega)) | (with_reducible refine OF.alloc ?_ _) | ((with_reducible refine OF.setCell ?_ ?_ _); rotate_left; (first | omega | (simp <;> omega)))))⟩
theorem l_EqualTuning (b : Nat) (st : Int) (x1 : Nat) (x2 : Nat) (n1 : Nat) (xs1 : List Nat) (code : Int) (w : World) (m1 : n1 ≤ 1048576)
    (HS : ∀ w, Calls Try.prog 21 #[.float .f32 b, .int .i64 st] w (NewTuning x1 x2 n1 xs1 code w)) (HI : ∀ w, Calls Try.prog 22 #[.float .f32 b, .int .i64 st] w (NewTuning x1 x2 n1 xs1 code w)) :
    Calls Try.prog 4 #[.float .f32 b, .int .i64 st] w (RetV (.bool true) w) := by
  have HS := Lib.hid HS
  have HI := Lib.hid HI
  have hq : ¬ (1 + (n1 : Int)) < 0 := by omega
  go_enter Try.func4, Try.ntmps4
  go_wp2_with fail
  refine (HS.out _).mono ?_
  rintro e w1 ⟨a1s, c1s, g1s, t_x1s, t_x2s, rfl, hb1, q01s, o1s_1⟩
  obtain ⟨hc1, hf1, hz1⟩ := bcell hb1
  have hk1 := bblk hb1
  have Z1 : w.heap.size ≤ w1.heap.size := by first | exact hz1 | (simp at hz1; omega) | omega
  try (have ZS1 : w.heap.size < w1.heap.size := by first | omega | (simp at hz1; omega))
  have b1 : Below w.heap.size w w1 := Below.trans (by (repeat (first | (with_reducible refine Below.drewN ?_) | (with_reducible refine Below.drew ?_) | ((with_reducible refine Below.alloc ?_ ?_ _); rotate_left; (first | omega | (simp <;> omega))) | ((with_reducible refine Below.setCell ?_ ?_ _); rotate_left; (first | omega | (simp <;> omega))) | (with_reducible exact Below.refl _ _) | (with_reducible assumption)))) (hb1.mono (by first | omega | (simp <;> omega)))
  have q1s : 0 < n1 → w.heap.size ≤ g1s ∧ g1s < w1.heap.size := fun h => by have := q01s h; first | omega | (simp at this; omega)
  try (have qs1s : 0 < n1 → w.heap.size < g1s := fun h => by have := q01s h; first | omega | (simp at this; omega))
  go_wp2_with fail
  refine (HI.out _).mono ?_
  rintro e w2 ⟨a1i, c1i, g1i, t_x1i, t_x2i, rfl, hb2, q01i, o1i_2⟩
  obtain ⟨hc2, hf2, hz2⟩ := bcell hb2
  have hk2 := bblk hb2
  have Z2 : w1.heap.size ≤ w2.heap.size := by first | exact hz2 | (simp at hz2; omega) | omega
  try (have ZS2 : w1.heap.size < w2.heap.size := by first | omega | (simp at hz2; omega))
  try (have Xw1_2 : w1.heap.size < w2.heap.size := by first | omega | (simp at hz2; omega))
  try (have XXw1_2 : w1.heap.size < w2.heap.size + 1 := by omega)
  have b2 : Below w.heap.size w w2 := Below.trans (by (repeat (first | (with_reducible refine Below.drewN ?_) | (with_reducible refine Below.drew ?_) | ((with_reducible refine Below.alloc ?_ ?_ _); rotate_left; (first | omega | (simp <;> omega))) | ((with_reducible refine Below.setCell ?_ ?_ _); rotate_left; (first | omega | (simp <;> omega))) | (with_reducible exact Below.refl _ _) | (with_reducible assumption)))) (hb2.mono (by first | omega | (simp <;> omega)))
  have q1i : 0 < n1 → w1.heap.size ≤ g1i ∧ g1i < w2.heap.size := fun h => by have := q01i h; first | omega | (simp at this; omega)
  try (have qs1i : 0 < n1 → w1.heap.size < g1i := fun h => by have := q01i h; first | omega | (simp at this; omega))
  have o1s_2 := OF.below (g := g1s) (a := a1s) (n := n1) (c := c1s) (xs := xs1) (by (repeat (first | (with_reducible assumption) | (with_reducible refine OF.draw ?_) | (with_reducible exact OF.made' (by simp) (by simp) (by omega)) | (with_reducible refine OF.alloc ?_ _) | ((with_reducible refine OF.setCell ?_ ?_ _); rotate_left; (first | omega | (simp <;> omega)))))) hb2 (Nat.le_refl _)
  clear o1s_1
  go_wp2_with fail
  refine (c_eqTuning' _ _ _ _ _ _ _ _ _ _ _ _ (up_nv2 _ _ _) (up_nv2 _ _ _) (FS.below (B := w2.heap.size) o1i_2.fs (by (repeat (first | (with_reducible refine Below.drewN ?_) | (with_reducible refine Below.drew ?_) | ((with_reducible refine Below.alloc ?_ ?_ _); rotate_left; (first | omega | (simp <;> omega))) | ((with_reducible refine Below.setCell ?_ ?_ _); rotate_left; (first | omega | (simp <;> omega))) | (with_reducible exact Below.refl _ _) | (with_reducible assumption)))) (Nat.le_refl _)) (FS.below (B := w2.heap.size) o1s_2.fs (by (repeat (first | (with_reducible refine Below.drewN ?_) | (with_reducible refine Below.drew ?_) | ((with_reducible refine Below.alloc ?_ ?_ _); rotate_left; (first | omega | (simp <;> omega))) | ((with_reducible refine Below.setCell ?_ ?_ _); rotate_left; (first | omega | (simp <;> omega))) | (with_reducible exact Below.refl _ _) | (with_reducible assumption)))) (Nat.le_refl _)) (Alk.refl _)).mono ?_
  rintro e w3 ⟨rfl, hb3⟩
  obtain ⟨hc3, hf3, hz3⟩ := bcell hb3
  have hk3 := bblk hb3
  have Z3 : w2.heap.size ≤ w3.heap.size := by first | exact hz3 | (simp at hz3; omega) | omega
  try (have ZS3 : w2.heap.size < w3.heap.size := by first | omega | (simp at hz3; omega))
  try (have Xw1_3 : w1.heap.size < w3.heap.size := by first | omega | (simp at hz3; omega))
  try (have XXw1_3 : w1.heap.size < w3.heap.size + 1 := by omega)
  try (have Xw2_3 : w2.heap.size < w3.heap.size := by first | omega | (simp at hz3; omega))
  try (have XXw2_3 : w2.heap.size < w3.heap.size + 1 := by omega)
  have b3 : Below w.heap.size w w3 := Below.trans (by (repeat (first | (with_reducible refine Below.drewN ?_) | (with_reducible refine Below.drew ?_) | ((with_reducible refine Below.alloc ?_ ?_ _); rotate_left; (first | omega | (simp <;> omega))) | ((with_reducible refine Below.setCell ?_ ?_ _); rotate_left; (first | omega | (simp <;> omega))) | (with_reducible exact Below.refl _ _) | (with_reducible assumption)))) (hb3.mono (by first | omega | (simp <;> omega)))
  have o1s_3 := OF.below (g := g1s) (a := a1s) (n := n1) (c := c1s) (xs := xs1) (by (repeat (first | (with_reducible assumption) | (with_reducible refine OF.draw ?_) | (with_reducible exact OF.made' (by simp) (by simp) (by omega)) | (with_reducible refine OF.alloc ?_ _) | ((with_reducible refine OF.setCell ?_ ?_ _); rotate_left; (first | omega | (simp <;> omega)))))) hb3 (Nat.le_refl _)
  clear o1s_2
  have o1i_3 := OF.below (g := g1i) (a := a1i) (n := n1) (c := c1i) (xs := xs1) (by (repeat (first | (with_reducible assumption) | (with_reducible refine OF.draw ?_) | (with_reducible exact OF.made' (by simp) (by simp) (by omega)) | (with_reducible refine OF.alloc ?_ _) | ((with_reducible refine OF.setCell ?_ ?_ _); rotate_left; (first | omega | (simp <;> omega)))))) hb3 (Nat.le_refl _)
  clear o1i_2
  go_wp2_with fail
  refine (c_markTuning' g1i _ _ _ _ _ xs1 1 _ (by (repeat (first | (with_reducible assumption) | (with_reducible refine OF.draw ?_) | (with_reducible exact OF.made' (by simp) (by simp) (by omega)) | (with_reducible refine OF.alloc ?_ _) | ((with_reducible refine OF.setCell ?_ ?_ _); rotate_left; (first | omega | (simp <;> omega)))))) (by first | omega | (simp; omega))  (by omega) (by omega)).mono ?_
  rintro e w4 ⟨rfl, wr4, o1i_4⟩
  have hz4 := wr4.size
  obtain ⟨hc4w1, hf4w1, _⟩ := wr4.cell w1.heap.size (by first | omega | (simp; omega)) (by simp only [mem_gl]; omega)
  obtain ⟨hc4w2, hf4w2, _⟩ := wr4.cell w2.heap.size (by first | omega | (simp; omega)) (by simp only [mem_gl]; omega)
  have Z4 : w3.heap.size ≤ w4.heap.size := by first | exact hz4 | (simp at hz4; omega) | omega
  try (have ZS4 : w3.heap.size < w4.heap.size := by first | omega | (simp at hz4; omega))
  try (have Xw1_4 : w1.heap.size < w4.heap.size := by first | omega | (simp at hz4; omega))
  try (have XXw1_4 : w1.heap.size < w4.heap.size + 1 := by omega)
  try (have Xw2_4 : w2.heap.size < w4.heap.size := by first | omega | (simp at hz4; omega))
  try (have XXw2_4 : w2.heap.size < w4.heap.size + 1 := by omega)
  have b4 : Below w.heap.size w w4 := Below.trans (by (repeat (first | (with_reducible refine Below.drewN ?_) | (with_reducible refine Below.drew ?_) | ((with_reducible refine Below.alloc ?_ ?_ _); rotate_left; (first | omega | (simp <;> omega))) | ((with_reducible refine Below.setCell ?_ ?_ _); rotate_left; (first | omega | (simp <;> omega))) | (with_reducible exact Below.refl _ _) | (with_reducible assumption)))) (wr4.below (by first | omega | (simp; omega)) (by intro g hg; simp only [mem_gl] at hg; omega))
  clear o1i_3
  have o1s_4 := OF.wr (g := g1s) (a := a1s) (n := n1) (c := c1s) (xs := xs1) (by (repeat (first | (with_reducible assumption) | (with_reducible refine OF.draw ?_) | (with_reducible exact OF.made' (by simp) (by simp) (by omega)) | (with_reducible refine OF.alloc ?_ _) | ((with_reducible refine OF.setCell ?_ ?_ _); rotate_left; (first | omega | (simp <;> omega)))))) wr4 (by simp only [mem_gl]; omega)
  clear o1s_3
  go_wp2_with fail
  refine (c_heldTuning' _ _ _ _ _ 1 _ (FS.below (B := w4.heap.size) o1i_4.fs (by (repeat (first | (with_reducible refine Below.drewN ?_) | (with_reducible refine Below.drew ?_) | ((with_reducible refine Below.alloc ?_ ?_ _); rotate_left; (first | omega | (simp <;> omega))) | ((with_reducible refine Below.setCell ?_ ?_ _); rotate_left; (first | omega | (simp <;> omega))) | (with_reducible exact Below.refl _ _) | (with_reducible assumption)))) (Nat.le_refl _)) (by omega) (by omega)).mono ?_
  rintro e w5 ⟨rfl, hb5⟩
  obtain ⟨hc5, hf5, hz5⟩ := bcell hb5
  have hk5 := bblk hb5
  have Z5 : w4.heap.size ≤ w5.heap.size := by first | exact hz5 | (simp at hz5; omega) | omega
  try (have ZS5 : w4.heap.size < w5.heap.size := by first | omega | (simp at hz5; omega))
  try (have Xw1_5 : w1.heap.size < w5.heap.size := by first | omega | (simp at hz5; omega))
  try (have XXw1_5 : w1.heap.size < w5.heap.size + 1 := by omega)
  try (have Xw2_5 : w2.heap.size < w5.heap.size := by first | omega | (simp at hz5; omega))
  try (have XXw2_5 : w2.heap.size < w5.heap.size + 1 := by omega)
  have b5 : Below w.heap.size w w5 := Below.trans (by (repeat (first | (with_reducible refine Below.drewN ?_) | (with_reducible refine Below.drew ?_) | ((with_reducible refine Below.alloc ?_ ?_ _); rotate_left; (first | omega | (simp <;> omega))) | ((with_reducible refine Below.setCell ?_ ?_ _); rotate_left; (first | omega | (simp <;> omega))) | (with_reducible exact Below.refl _ _) | (with_reducible assumption)))) (hb5.mono (by first | omega | (simp <;> omega)))
  have o1s_5 := OF.below (g := g1s) (a := a1s) (n := n1) (c := c1s) (xs := xs1) (by (repeat (first | (with_reducible assumption) | (with_reducible refine OF.draw ?_) | (with_reducible exact OF.made' (by simp) (by simp) (by omega)) | (with_reducible refine OF.alloc ?_ _) | ((with_reducible refine OF.setCell ?_ ?_ _); rotate_left; (first | omega | (simp <;> omega)))))) hb5 (Nat.le_refl _)
  clear o1s_4
  have o1i_5 := OF.below (g := g1i) (a := a1i) (n := n1) (c := c1i) (xs := (marks (1) n1)) (by (repeat (first | (with_reducible assumption) | (with_reducible refine OF.draw ?_) | (with_reducible exact OF.made' (by simp) (by simp) (by omega)) | (with_reducible refine OF.alloc ?_ _) | ((with_reducible refine OF.setCell ?_ ?_ _); rotate_left; (first | omega | (simp <;> omega)))))) hb5 (Nat.le_refl _)
  clear o1i_4
  go_wp2_with fail
  refine (HI.out _).mono ?_
  rintro e w6 ⟨a1h, c1h, g1h, t_x1h, t_x2h, rfl, hb6, q01h, o1h_6⟩
  obtain ⟨hc6, hf6, hz6⟩ := bcell hb6
  have hk6 := bblk hb6
  have Z6 : w5.heap.size ≤ w6.heap.size := by first | exact hz6 | (simp at hz6; omega) | omega
  try (have ZS6 : w5.heap.size < w6.heap.size := by first | omega | (simp at hz6; omega))
  try (have Xw1_6 : w1.heap.size < w6.heap.size := by first | omega | (simp at hz6; omega))
  try (have XXw1_6 : w1.heap.size < w6.heap.size + 1 := by omega)
  try (have Xw2_6 : w2.heap.size < w6.heap.size := by first | omega | (simp at hz6; omega))
  try (have XXw2_6 : w2.heap.size < w6.heap.size + 1 := by omega)
  have b6 : Below w.heap.size w w6 := Below.trans (by (repeat (first | (with_reducible refine Below.drewN ?_) | (with_reducible refine Below.drew ?_) | ((with_reducible refine Below.alloc ?_ ?_ _); rotate_left; (first | omega | (simp <;> omega))) | ((with_reducible refine Below.setCell ?_ ?_ _); rotate_left; (first | omega | (simp <;> omega))) | (with_reducible exact Below.refl _ _) | (with_reducible assumption)))) (hb6.mono (by first | omega | (simp <;> omega)))
  have q1h : 0 < n1 → w5.heap.size ≤ g1h ∧ g1h < w6.heap.size := fun h => by have := q01h h; first | omega | (simp at this; omega)
  try (have qs1h : 0 < n1 → w5.heap.size < g1h := fun h => by have := q01h h; first | omega | (simp at this; omega))
  have o1s_6 := OF.below (g := g1s) (a := a1s) (n := n1) (c := c1s) (xs := xs1) (by (repeat (first | (with_reducible assumption) | (with_reducible refine OF.draw ?_) | (with_reducible exact OF.made' (by simp) (by simp) (by omega)) | (with_reducible refine OF.alloc ?_ _) | ((with_reducible refine OF.setCell ?_ ?_ _); rotate_left; (first | omega | (simp <;> omega)))))) hb6 (Nat.le_refl _)
  clear o1s_5
  have o1i_6 := OF.below (g := g1i) (a := a1i) (n := n1) (c := c1i) (xs := (marks (1) n1)) (by (repeat (first | (with_reducible assumption) | (with_reducible refine OF.draw ?_) | (with_reducible exact OF.made' (by simp) (by simp) (by omega)) | (with_reducible refine OF.alloc ?_ _) | ((with_reducible refine OF.setCell ?_ ?_ _); rotate_left; (first | omega | (simp <;> omega)))))) hb6 (Nat.le_refl _)
  clear o1i_5
  go_wp2_with fail
  refine (c_eqTuning' _ _ _ _ _ _ _ _ _ _ _ _ (up_nv2 _ _ _) (up_nv2 _ _ _) (FS.below (B := w6.heap.size) o1h_6.fs (by (repeat (first | (with_reducible refine Below.drewN ?_) | (with_reducible refine Below.drew ?_) | ((with_reducible refine Below.alloc ?_ ?_ _); rotate_left; (first | omega | (simp <;> omega))) | ((with_reducible refine Below.setCell ?_ ?_ _); rotate_left; (first | omega | (simp <;> omega))) | (with_reducible exact Below.refl _ _) | (with_reducible assumption)))) (Nat.le_refl _)) (FS.below (B := w6.heap.size) o1s_6.fs (by (repeat (first | (with_reducible refine Below.drewN ?_) | (with_reducible refine Below.drew ?_) | ((with_reducible refine Below.alloc ?_ ?_ _); rotate_left; (first | omega | (simp <;> omega))) | ((with_reducible refine Below.setCell ?_ ?_ _); rotate_left; (first | omega | (simp <;> omega))) | (with_reducible exact Below.refl _ _) | (with_reducible assumption)))) (Nat.le_refl _)) (Alk.refl _)).mono ?_
  rintro e w7 ⟨rfl, hb7⟩
  obtain ⟨hc7, hf7, hz7⟩ := bcell hb7
  have hk7 := bblk hb7
  have Z7 : w6.heap.size ≤ w7.heap.size := by first | exact hz7 | (simp at hz7; omega) | omega
  try (have ZS7 : w6.heap.size < w7.heap.size := by first | omega | (simp at hz7; omega))
  try (have Xw1_7 : w1.heap.size < w7.heap.size := by first | omega | (simp at hz7; omega))
  try (have XXw1_7 : w1.heap.size < w7.heap.size + 1 := by omega)
  try (have Xw2_7 : w2.heap.size < w7.heap.size := by first | omega | (simp at hz7; omega))
  try (have XXw2_7 : w2.heap.size < w7.heap.size + 1 := by omega)
  try (have Xw6_7 : w6.heap.size < w7.heap.size := by first | omega | (simp at hz7; omega))
  try (have XXw6_7 : w6.heap.size < w7.heap.size + 1 := by omega)
  have b7 : Below w.heap.size w w7 := Below.trans (by (repeat (first | (with_reducible refine Below.drewN ?_) | (with_reducible refine Below.drew ?_) | ((with_reducible refine Below.alloc ?_ ?_ _); rotate_left; (first | omega | (simp <;> omega))) | ((with_reducible refine Below.setCell ?_ ?_ _); rotate_left; (first | omega | (simp <;> omega))) | (with_reducible exact Below.refl _ _) | (with_reducible assumption)))) (hb7.mono (by first | omega | (simp <;> omega)))
  have o1s_7 := OF.below (g := g1s) (a := a1s) (n := n1) (c := c1s) (xs := xs1) (by (repeat (first | (with_reducible assumption) | (with_reducible refine OF.draw ?_) | (with_reducible exact OF.made' (by simp) (by simp) (by omega)) | (with_reducible refine OF.alloc ?_ _) | ((with_reducible refine OF.setCell ?_ ?_ _); rotate_left; (first | omega | (simp <;> omega)))))) hb7 (Nat.le_refl _)
  clear o1s_6
  have o1i_7 := OF.below (g := g1i) (a := a1i) (n := n1) (c := c1i) (xs := (marks (1) n1)) (by (repeat (first | (with_reducible assumption) | (with_reducible refine OF.draw ?_) | (with_reducible exact OF.made' (by simp) (by simp) (by omega)) | (with_reducible refine OF.alloc ?_ _) | ((with_reducible refine OF.setCell ?_ ?_ _); rotate_left; (first | omega | (simp <;> omega)))))) hb7 (Nat.le_refl _)
  clear o1i_6
  have o1h_7 := OF.below (g := g1h) (a := a1h) (n := n1) (c := c1h) (xs := xs1) (by (repeat (first | (with_reducible assumption) | (with_reducible refine OF.draw ?_) | (with_reducible exact OF.made' (by simp) (by simp) (by omega)) | (with_reducible refine OF.alloc ?_ _) | ((with_reducible refine OF.setCell ?_ ?_ _); rotate_left; (first | omega | (simp <;> omega)))))) hb7 (Nat.le_refl _)
  clear o1h_6
  go_wp2_with fail
  refine (c_heldTuning' _ _ _ _ _ 1 _ (FS.below (B := w7.heap.size) o1i_7.fs (by (repeat (first | (with_reducible refine Below.drewN ?_) | (with_reducible refine Below.drew ?_) | ((with_reducible refine Below.alloc ?_ ?_ _); rotate_left; (first | omega | (simp <;> omega))) | ((with_reducible refine Below.setCell ?_ ?_ _); rotate_left; (first | omega | (simp <;> omega))) | (with_reducible exact Below.refl _ _) | (with_reducible assumption)))) (Nat.le_refl _)) (by omega) (by omega)).mono ?_
  rintro e w8 ⟨rfl, hb8⟩
  obtain ⟨hc8, hf8, hz8⟩ := bcell hb8
  have hk8 := bblk hb8
  have Z8 : w7.heap.size ≤ w8.heap.size := by first | exact hz8 | (simp at hz8; omega) | omega
  try (have ZS8 : w7.heap.size < w8.heap.size := by first | omega | (simp at hz8; omega))
  try (have Xw1_8 : w1.heap.size < w8.heap.size := by first | omega | (simp at hz8; omega))
  try (have XXw1_8 : w1.heap.size < w8.heap.size + 1 := by omega)
  try (have Xw2_8 : w2.heap.size < w8.heap.size := by first | omega | (simp at hz8; omega))
  try (have XXw2_8 : w2.heap.size < w8.heap.size + 1 := by omega)
  try (have Xw6_8 : w6.heap.size < w8.heap.size := by first | omega | (simp at hz8; omega))
  try (have XXw6_8 : w6.heap.size < w8.heap.size + 1 := by omega)
  have b8 : Below w.heap.size w w8 := Below.trans (by (repeat (first | (with_reducible refine Below.drewN ?_) | (with_reducible refine Below.drew ?_) | ((with_reducible refine Below.alloc ?_ ?_ _); rotate_left; (first | omega | (simp <;> omega))) | ((with_reducible refine Below.setCell ?_ ?_ _); rotate_left; (first | omega | (simp <;> omega))) | (with_reducible exact Below.refl _ _) | (with_reducible assumption)))) (hb8.mono (by first | omega | (simp <;> omega)))
  have o1s_8 := OF.below (g := g1s) (a := a1s) (n := n1) (c := c1s) (xs := xs1) (by (repeat (first | (with_reducible assumption) | (with_reducible refine OF.draw ?_) | (with_reducible exact OF.made' (by simp) (by simp) (by omega)) | (with_reducible refine OF.alloc ?_ _) | ((with_reducible refine OF.setCell ?_ ?_ _); rotate_left; (first | omega | (simp <;> omega)))))) hb8 (Nat.le_refl _)
  clear o1s_7
  have o1i_8 := OF.below (g := g1i) (a := a1i) (n := n1) (c := c1i) (xs := (marks (1) n1)) (by (repeat (first | (with_reducible assumption) | (with_reducible refine OF.draw ?_) | (with_reducible exact OF.made' (by simp) (by simp) (by omega)) | (with_reducible refine OF.alloc ?_ _) | ((with_reducible refine OF.setCell ?_ ?_ _); rotate_left; (first | omega | (simp <;> omega)))))) hb8 (Nat.le_refl _)
  clear o1i_7
  have o1h_8 := OF.below (g := g1h) (a := a1h) (n := n1) (c := c1h) (xs := xs1) (by (repeat (first | (with_reducible assumption) | (with_reducible refine OF.draw ?_) | (with_reducible exact OF.made' (by simp) (by simp) (by omega)) | (with_reducible refine OF.alloc ?_ _) | ((with_reducible refine OF.setCell ?_ ?_ _); rotate_left; (first | omega | (simp <;> omega)))))) hb8 (Nat.le_refl _)
  clear o1h_7
  go_wp2
  go_ret
  exact ⟨rfl, by (repeat (first | (with_reducible refine Below.drewN ?_) | (with_reducible refine Below.drew ?_) | ((with_reducible refine Below.alloc ?_ ?_ _); rotate_left; (first | omega | (simp <;> omega))) | ((with_reducible refine Below.setCell ?_ ?_ _); rotate_left; (first | omega | (simp <;> omega))) | (with_reducible exact Below.refl _ _) | (with_reducible assumption)))⟩


theorem k_EqualTuning (b : Nat) (st : Int) (w : World) : Calls Try.prog 4 #[.float .f32 b, .int .i64 st] w (RetV (.bool true) w) := by
  cases h : insB b 1065353216 1184645120 && inB st 1 31
  · exact l_EqualTuning b st 0 0 0 [] 2 w (by omega) (fun w => c_sEqualTuning_no b st w h) (fun w => c_EqualTuning_no b st w h)
  · rw [Bool.and_eq_true] at h
    have hn := inB_yes h.2
    obtain ⟨m, rfl⟩ := Int.eq_ofNat_of_zero_le (show 0 ≤ st by omega)
    exact l_EqualTuning b _ b 1150681088 m _ 0 w (by omega) (fun w => c_sEqualTuning_ok b m w h.1 (by omega) (by omega)) (fun w => c_EqualTuning_ok b m w h.1 (by omega) (by omega))
end Go.Proofs.Ytdhiihmfgmempaa
