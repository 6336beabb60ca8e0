
/-
The energy of a room.
-/
import Derived.Test.YtfhegjjgfaeinaaYj
import Derived.Test.YtfhegjjgfaeinaaPg
namespace Go.Proofs.Ytfhegjjgfaeinaa
open Go Go.RowKit Fl
def Rv.qs (r : Rv) : List Rg := [r.l0, r.l1, r.l2, r.l3]
def enR (r : Rv) : Nat := enF (cat r.qs 4) (rgSum r.qs 4)
theorem enR_strip (r : Rv) : enR r.strip = enR r := rfl
theorem enR_same {r s : Rv} (h : s.strip = r.strip) : enR s = enR r := by rw [← enR_strip s, h, enR_strip r]
theorem roomB_same {r s : Rv} (h : s.strip = r.strip) : roomB s = roomB r := by rw [← roomB_strip s, h, roomB_strip r]
theorem q_cells {w : World} {b : Nat} {r : Rv} {T : TypeId} (kb : w.heap[b]? = some (.cells r.cells T)) : ∀ k, k < 4 → w.cell? ⟨b, 9 + k * 2, none⟩ = some (.slice (rat r.qs k).a (rat r.qs k).n (rat r.qs k).c)
  | 0, _ => blk_cell kb rfl
  | 1, _ => blk_cell kb rfl
  | 2, _ => blk_cell kb rfl
  | 3, _ => blk_cell kb rfl
  | k + 4, h => absurd h (by omega)
theorem q_fs {w : World} {r : Rv} (h : RvM w r) : ∀ k, k < 4 → FS w (rat r.qs k).a (rat r.qs k).n (rat r.qs k).c (rat r.qs k).xs
  | 0, _ => h.q3
  | 1, _ => h.q4
  | 2, _ => h.q5
  | 3, _ => h.q6
  | k + 4, h => absurd h (by omega)
theorem roomB_loops {r : Rv} (h : roomB r = true) : ∀ j, j < 4 → (rat r.qs j).ok = true := by
  unfold roomB at h
  simp only [Bool.and_eq_true] at h
  exact rgsTo_nth h.2.2.2.1
theorem ix_k (r : Rv) (W : World) : ∀ k : Nat, k < 4 → (Instr.index 47 (.agg #[.slice r.l0.a r.l0.n r.l0.c, .int .i64 r.l0.i, .slice r.l1.a r.l1.n r.l1.c, .int .i64 r.l1.i, .slice r.l2.a r.l2.n r.l2.c, .int .i64 r.l2.i, .slice r.l3.a r.l3.n r.l3.c, .int .i64 r.l3.i]) (.int .i64 (k : Int))).run Try.prog W = .ok (.agg #[.slice (rat r.qs k).a (rat r.qs k).n (rat r.qs k).c, .int .i64 (rat r.qs k).i]) W
  | 0, _ => ix_ring0 _ _ _ _ _ _ _ _ W
  | 1, _ => ix_ring1 _ _ _ _ _ _ _ _ W
  | 2, _ => ix_ring2 _ _ _ _ _ _ _ _ W
  | 3, _ => ix_ring3 _ _ _ _ _ _ _ _ W
  | k + 4, h => absurd h (by omega)
set_option maxRecDepth 100000 in
set_option maxHeartbeats 2000000 in
theorem c_sEnergyOfRoom_no (r : Rv) (w : World) (h : RvM w r) (hv : roomB r = false) : Calls Try.prog 39 #[.agg r.cells] w (RetFD 0 1 w) := by
  have HV : Hid (∀ W b {T : TypeId}, Below w.heap.size w W → W.heap[b]? = some (.cells r.cells T) → Calls Try.prog 110 #[.pointer (some ⟨b, 0, none⟩)] W (RetV (.bool false) W)) := fun W b T hW hb => hv ▸ c_l06Ok b r W hb (h.below hW (Nat.le_refl _))
  clear h hv
  go_enter Try.func39, Try.ntmps39
  go_wp2_with fail
  refine (HV.out _ _ (by (repeat (first | (with_reducible refine Below.drewN ?_) | (with_reducible refine Below.drew ?_) | ((with_reducible refine Below.alloc ?_ ?_ _); rotate_left; (first | omega | (simp <;> omega))) | ((with_reducible refine Below.setCell ?_ ?_ _); rotate_left; (first | omega | (simp <;> omega))) | (with_reducible exact Below.refl _ _) | (with_reducible assumption)))) (MapKept.heap_alloc w _).1).mono ?_
  rintro e w1 ⟨rfl, hb1⟩
  have b1 : Below w.heap.size w w1 := Below.trans (by (repeat (first | (with_reducible refine Below.drewN ?_) | (with_reducible refine Below.drew ?_) | ((with_reducible refine Below.alloc ?_ ?_ _); rotate_left; (first | omega | (simp <;> omega))) | ((with_reducible refine Below.setCell ?_ ?_ _); rotate_left; (first | omega | (simp <;> omega))) | (with_reducible exact Below.refl _ _) | (with_reducible assumption)))) (hb1.mono (by simp))
  have kb : w1.heap[w.heap.size]? = some (.cells r.cells 51) := (hb1.block _ (by simp)).trans (MapKept.heap_alloc w _).1
  clear hb1
  go_wp2
  go_ret2
  exact ⟨0, rfl, b1⟩
set_option maxRecDepth 100000 in
set_option maxHeartbeats 2000000 in
theorem c_EnergyOfRoom_no (r : Rv) (w : World) (h : RvM w r) (hv : roomB r = false) : Calls Try.prog 40 #[.agg r.cells] w (RetFD 0 1 w) := by
  have HV : Hid (∀ W, Below w.heap.size w W → Calls Try.prog 38 #[.agg r.cells] W (RetV (.bool false) W)) := fun W hW => hv ▸ c_ValidRoom r W (h.below hW (Nat.le_refl _))
  clear h hv
  go_enter Try.func40, Try.ntmps40
  go_wp2_with fail
  refine (HV.out _ (by (repeat (first | (with_reducible refine Below.drewN ?_) | (with_reducible refine Below.drew ?_) | ((with_reducible refine Below.alloc ?_ ?_ _); rotate_left; (first | omega | (simp <;> omega))) | ((with_reducible refine Below.setCell ?_ ?_ _); rotate_left; (first | omega | (simp <;> omega))) | (with_reducible exact Below.refl _ _) | (with_reducible assumption))))).mono ?_
  rintro e w1 ⟨rfl, hb1⟩
  have b1 : Below w.heap.size w w1 := Below.trans (by (repeat (first | (with_reducible refine Below.drewN ?_) | (with_reducible refine Below.drew ?_) | ((with_reducible refine Below.alloc ?_ ?_ _); rotate_left; (first | omega | (simp <;> omega))) | ((with_reducible refine Below.setCell ?_ ?_ _); rotate_left; (first | omega | (simp <;> omega))) | (with_reducible exact Below.refl _ _) | (with_reducible assumption)))) (hb1.mono (by simp))
  have kb : w1.heap[w.heap.size]? = some (.cells r.cells 51) := (hb1.block _ (by simp)).trans (MapKept.heap_alloc w _).1
  clear hb1
  go_wp2
  go_ret2
  exact ⟨0, rfl, b1⟩
set_option maxRecDepth 100000 in
set_option maxHeartbeats 2000000 in
theorem c_sEnergyOfRoom_ok (r : Rv) (w : World) (h : RvM w r) (hv : roomB r = true) : Calls Try.prog 39 #[.agg r.cells] w (RetFD (enR r) 0 w) := by
  have HV : Hid (∀ W b {T : TypeId}, Below w.heap.size w W → W.heap[b]? = some (.cells r.cells T) → Calls Try.prog 110 #[.pointer (some ⟨b, 0, none⟩)] W (RetV (.bool true) W)) := fun W b T hW hb => hv ▸ c_l06Ok b r W hb (h.below hW (Nat.le_refl _))
  have HOK := Lib.hid (roomB_loops hv)
  have QL := Lib.hid (fun j hj => (q_fs h j hj).len)
  have QS := Lib.hid (fun k hk => rgSum_le HOK.out k hk)
  have QN := Lib.hid (cat_nth QL.out 4 (Nat.le_refl _))
  have QF := Lib.hid (cat_fin QL.out (fun j hj => ok_fin (HOK.out j hj)) 4 (Nat.le_refl _))
  have QE := Lib.hid (enF_le QF.out)
  have HM := Lib.hid (fun k hk => rgSum_mono r.qs (n := 4) (k := k) hk)
  have HQ := Lib.hid (fun k hk => q_fs h k hk)
  have N := Lib.hid h
  clear h hv
  rw [show enR r = enF (cat r.qs 4) (rgSum r.qs 4) from rfl]
  go_enter Try.func39, Try.ntmps39
  go_wp2_with fail
  refine (HV.out _ _ (by (repeat (first | (with_reducible refine Below.drewN ?_) | (with_reducible refine Below.drew ?_) | ((with_reducible refine Below.alloc ?_ ?_ _); rotate_left; (first | omega | (simp <;> omega))) | ((with_reducible refine Below.setCell ?_ ?_ _); rotate_left; (first | omega | (simp <;> omega))) | (with_reducible exact Below.refl _ _) | (with_reducible assumption)))) (MapKept.heap_alloc w _).1).mono ?_
  rintro e w1 ⟨rfl, hb1⟩
  have b1 : Below w.heap.size w w1 := Below.trans (by (repeat (first | (with_reducible refine Below.drewN ?_) | (with_reducible refine Below.drew ?_) | ((with_reducible refine Below.alloc ?_ ?_ _); rotate_left; (first | omega | (simp <;> omega))) | ((with_reducible refine Below.setCell ?_ ?_ _); rotate_left; (first | omega | (simp <;> omega))) | (with_reducible exact Below.refl _ _) | (with_reducible assumption)))) (hb1.mono (by simp))
  have kb : w1.heap[w.heap.size]? = some (.cells r.cells 51) := (hb1.block _ (by simp)).trans (MapKept.heap_alloc w _).1
  clear hb1
  have HK := Lib.hid (fun k hk => q_cells kb k hk)
  generalize hq : r.qs = qs at *
  generalize hl : cat qs 4 = l at *
  clear hq hl kb N QL QS
  go_wp2
  go_loopg [4, 5, 6, 7, 8] 4 (fun gg s f i _ _ wr => ∃ k : Nat, k ≤ 4 ∧ gg = 4 - k ∧ i = .int .i64 k ∧ s = .float .f64 (enF l (rgSum qs k)) ∧ f = .bool (decide (rgSum qs k = 0)) ∧ w1 = wr)
  case atStart => exact ⟨0, by omega, by omega, rfl, rfl, rfl, rfl⟩
  case round =>
    obtain ⟨k, hk, rfl, rfl, rfl, rfl, hw⟩ := hrel
    subst hw
    by_cases hlt : k < 4
    · have x0 := HK.out k hlt
      have hN1 := (ok_n (HOK.out k hlt)).2.1
      have HR : Hid (rgSum qs (k + 1) = rgSum qs k + (rat qs k).n) := rfl
      have HNT := Lib.hid (fun i hi => QN.out k i hlt hi)
      have HMM : Hid (rgSum qs k + (rat qs k).n ≤ rgSum qs 4) := HM.out (k + 1) (by omega)
      obtain ⟨b3, o3, ha3, hbl3, hcell3⟩ := (HQ.out k hlt).below b1 (Nat.le_refl _) |>.at_ (by have := (ok_n (HOK.out k hlt)).1; omega)
      have HC := Lib.hid hcell3
      rw [ha3] at x0
      clear hcell3 ha3
      generalize (rat qs k).n = M at *
      generalize hS : rgSum qs k = S0 at *
      have HS0 := Lib.hid hS
      clear hS
      go_wp2
      go_loopg [4, 5, 7, 8] M (fun gg s f i _ wr => ∃ j : Nat, j ≤ M ∧ gg = M - j ∧ i = .int .i64 j ∧ s = .float .f64 (enF l (S0 + j)) ∧ f = .bool (decide (S0 + j = 0)) ∧ w1 = wr)
      case atStart => exact ⟨0, by omega, by omega, rfl, rfl, rfl, rfl⟩
      case round =>
        obtain ⟨j, hj, rfl, rfl, rfl, rfl, hw2⟩ := hrel
        subst hw2
        by_cases hlt2 : j < M
        · have hcl := HC.out j hlt2
          rw [← HNT.out j hlt2] at hcl
          have hf := QF.out (S0 + j) (by have := HMM.out; omega)
          have hE1 := QE.out (S0 + j + 1) (by have := HMM.out; omega)
          have hPP := sq_le hf
          have hU := up_fin hf
          have hXd : dn .f32 (nth l (S0 + j)) = 0 := by unfold dn; rw [fin_nan hf]; rfl
          have hUn : ∀ t, nv .f64 (up (nth l (S0 + j))) t = up (nth l (S0 + j)) := fun t => nv_of t hU
          have hUd : dn .f64 (up (nth l (S0 + j))) = 0 := by unfold dn; rw [hU]; rfl
          have hP : fop .mul .f64 (up (nth l (S0 + j))) (up (nth l (S0 + j))) = sqF (nth l (S0 + j)) := rfl
          have hPn : ∀ t, nv .f64 (sqF (nth l (S0 + j))) t = sqF (nth l (S0 + j)) := fun t => nv_le t hPP
          have hPd := dn_le hPP
          have hA : fop .add .f64 (enF l (S0 + j)) (sqF (nth l (S0 + j))) = enF l (S0 + j + 1) := rfl
          have hV : ∀ t, nv .f64 (enF l (S0 + j + 1)) t = enF l (S0 + j + 1) := fun t => nv_le t hE1
          have hD := dn_le hE1
          have H1 : Hid (S0 + j = 0 → sqF (nth l (S0 + j)) = enF l (S0 + j + 1)) := fun h => by rw [h]; exact (enF_one (QF.out 0 (by have := HMM.out; omega))).symm
          clear hE1 hPP hf hU
          generalize hEE : enF l (S0 + j + 1) = E' at *
          have HEE := Lib.hid hEE
          clear hEE
          generalize sqF (nth l (S0 + j)) = P at *
          generalize nth l (S0 + j) = X at *
          have hd2 : ¬ (S0 + (j + 1) = 0) := by omega
          by_cases h0 : S0 + j = 0
          · have e := Lib.hid (H1.out h0)
            have h0' : decide (S0 + j = 0) = true := decide_eq_true h0
            rw [h0']
            clear H1 h0 hA hV hD
            go_wp2
            go_roundg (M - (j + 1))
            case rel => exact ⟨j + 1, by omega, rfl, by go_num, by rw [e.out]; exact congrArg _ HEE.out.symm, by rw [decide_eq_false hd2], rfl⟩
            case measure => omega
          · have h0' : decide (S0 + j = 0) = false := decide_eq_false h0
            rw [h0']
            clear H1 h0
            go_wp2
            go_roundg (M - (j + 1))
            case rel => exact ⟨j + 1, by omega, rfl, by go_num, congrArg _ HEE.out.symm, by rw [decide_eq_false hd2], rfl⟩
            case measure => omega
        · obtain rfl : M = j := by omega
          go_wp2
          go_roundg (4 - (k + 1))
          case rel => exact ⟨k + 1, by omega, rfl, by go_num, by rw [HR.out], by rw [HR.out], rfl⟩
          case measure => omega
    · obtain rfl : k = 4 := by omega
      have hv := nv_le 0 (QE.out _ (Nat.le_refl _))
      go_wp2
      go_ret2
      exact ⟨0, by rw [hv]; rfl, b1⟩
set_option maxRecDepth 100000 in
set_option maxHeartbeats 2000000 in
theorem c_EnergyOfRoom_ok (r : Rv) (w : World) (h : RvM w r) (hv : roomB r = true) : Calls Try.prog 40 #[.agg r.cells] w (RetFD (enR r) 0 w) := by
  have HV : Hid (∀ W, Below w.heap.size w W → Calls Try.prog 38 #[.agg r.cells] W (RetV (.bool true) W)) := fun W hW => hv ▸ c_ValidRoom r W (h.below hW (Nat.le_refl _))
  have HOK := Lib.hid (roomB_loops hv)
  have QL := Lib.hid (fun j hj => (q_fs h j hj).len)
  have QS := Lib.hid (fun k hk => rgSum_le HOK.out k hk)
  have QN := Lib.hid (cat_nth QL.out 4 (Nat.le_refl _))
  have QF := Lib.hid (cat_fin QL.out (fun j hj => ok_fin (HOK.out j hj)) 4 (Nat.le_refl _))
  have QE := Lib.hid (enF_le QF.out)
  have HM := Lib.hid (fun k hk => rgSum_mono r.qs (n := 4) (k := k) hk)
  have HQ := Lib.hid (fun k hk => q_fs h k hk)
  have N := Lib.hid h
  have HX := Lib.hid (fun W k hk => ix_k r W k hk)
  clear h hv
  rw [show enR r = enF (cat r.qs 4) (rgSum r.qs 4) from rfl]
  go_enter Try.func40, Try.ntmps40
  go_wp2_with fail
  refine (HV.out _ (by (repeat (first | (with_reducible refine Below.drewN ?_) | (with_reducible refine Below.drew ?_) | ((with_reducible refine Below.alloc ?_ ?_ _); rotate_left; (first | omega | (simp <;> omega))) | ((with_reducible refine Below.setCell ?_ ?_ _); rotate_left; (first | omega | (simp <;> omega))) | (with_reducible exact Below.refl _ _) | (with_reducible assumption))))).mono ?_
  rintro e w1 ⟨rfl, hb1⟩
  have b1 : Below w.heap.size w w1 := Below.trans (by (repeat (first | (with_reducible refine Below.drewN ?_) | (with_reducible refine Below.drew ?_) | ((with_reducible refine Below.alloc ?_ ?_ _); rotate_left; (first | omega | (simp <;> omega))) | ((with_reducible refine Below.setCell ?_ ?_ _); rotate_left; (first | omega | (simp <;> omega))) | (with_reducible exact Below.refl _ _) | (with_reducible assumption)))) (hb1.mono (by simp))
  have kb : w1.heap[w.heap.size]? = some (.cells r.cells 51) := (hb1.block _ (by simp)).trans (MapKept.heap_alloc w _).1
  clear hb1
  have a9 : w1.cell? ⟨w.heap.size, 9, none⟩ = some (.slice r.l0.a r.l0.n r.l0.c) := blk_cell kb rfl
  have a10 : w1.cell? ⟨w.heap.size, 10, none⟩ = some (.int .i64 r.l0.i) := blk_cell kb rfl
  have a11 : w1.cell? ⟨w.heap.size, 11, none⟩ = some (.slice r.l1.a r.l1.n r.l1.c) := blk_cell kb rfl
  have a12 : w1.cell? ⟨w.heap.size, 12, none⟩ = some (.int .i64 r.l1.i) := blk_cell kb rfl
  have a13 : w1.cell? ⟨w.heap.size, 13, none⟩ = some (.slice r.l2.a r.l2.n r.l2.c) := blk_cell kb rfl
  have a14 : w1.cell? ⟨w.heap.size, 14, none⟩ = some (.int .i64 r.l2.i) := blk_cell kb rfl
  have a15 : w1.cell? ⟨w.heap.size, 15, none⟩ = some (.slice r.l3.a r.l3.n r.l3.c) := blk_cell kb rfl
  have a16 : w1.cell? ⟨w.heap.size, 16, none⟩ = some (.int .i64 r.l3.i) := blk_cell kb rfl
  clear kb
  go_upto_region 5 with fail
  clear a9 a10 a11 a12 a13 a14 a15 a16
  generalize hq : r.qs = qs at *
  generalize hl : cat qs 4 = l at *
  clear hq hl N QL QS
  go_loopg [4, 6, 8, 14, 20] 4 (fun gg s _ _ i _ wr => ∃ k : Nat, k ≤ 4 ∧ gg = 4 - k ∧ i = .int .i64 k ∧ s = .float .f64 (enF l (rgSum qs k)) ∧ Below w1.heap.size w1 wr)
  case atStart => exact ⟨0, by omega, by omega, rfl, rfl, Below.refl _ _⟩
  case round =>
    obtain ⟨k, hk, rfl, rfl, rfl, hbe⟩ := hrel
    have BW := Lib.hid (b1.trans (hbe.mono b1.size))
    have HBE := Lib.hid hbe
    have hbz := hbe.size
    clear hbe
    by_cases hlt : k < 4
    · have hix := HX.out wr k hlt
      have hN1 := (ok_n (HOK.out k hlt)).2.1
      have HR : Hid (rgSum qs (k + 1) = rgSum qs k + (rat qs k).n) := rfl
      have HNT := Lib.hid (fun i hi => QN.out k i hlt hi)
      have HMM : Hid (rgSum qs k + (rat qs k).n ≤ rgSum qs 4) := HM.out (k + 1) (by omega)
      obtain ⟨b3, o3, ha3, hbl3, hcell3⟩ := (HQ.out k hlt).at_ (by have := (ok_n (HOK.out k hlt)).1; omega)
      have HC := Lib.hid hcell3
      rw [ha3] at hix
      clear hcell3 ha3
      generalize (rat qs k).n = M at *
      generalize hS : rgSum qs k = S0 at *
      have HS0 := Lib.hid hS
      clear hS
      have HB0 : Hid (Below w.heap.size w w1) := b1
      go_wp2
      go_loopg [4, 8, 20] M (fun gg s _ i wz => ∃ j : Nat, j ≤ M ∧ gg = M - j ∧ i = .int .i64 j ∧ s = .float .f64 (enF l (S0 + j)) ∧ Below w1.heap.size w1 wz)
      case atStart =>
        have hbx := HBE.out
        exact ⟨0, by omega, by omega, rfl, rfl, by (repeat (first | (with_reducible refine Below.drewN ?_) | (with_reducible refine Below.drew ?_) | ((with_reducible refine Below.alloc ?_ ?_ _); rotate_left; (first | omega | (simp <;> omega))) | ((with_reducible refine Below.setCell ?_ ?_ _); rotate_left; (first | omega | (simp <;> omega))) | (with_reducible exact Below.refl _ _) | (with_reducible assumption)))⟩
      case round =>
        obtain ⟨j, hj, rfl, rfl, rfl, hbe2⟩ := hrel
        by_cases hlt2 : j < M
        · have hcl := ((HB0.out.trans (hbe2.mono HB0.out.size)).cell (p := ⟨b3, o3 + j, none⟩) hbl3).trans (HC.out j hlt2)
          rw [← HNT.out j hlt2] at hcl
          have hf := QF.out (S0 + j) (by have := HMM.out; omega)
          have hE1 := QE.out (S0 + j + 1) (by have := HMM.out; omega)
          have hPP := sq_le hf
          have hU := up_fin hf
          have hXd : dn .f32 (nth l (S0 + j)) = 0 := by unfold dn; rw [fin_nan hf]; rfl
          have hUn : ∀ t, nv .f64 (up (nth l (S0 + j))) t = up (nth l (S0 + j)) := fun t => nv_of t hU
          have hUd : dn .f64 (up (nth l (S0 + j))) = 0 := by unfold dn; rw [hU]; rfl
          have hP : fop .mul .f64 (up (nth l (S0 + j))) (up (nth l (S0 + j))) = sqF (nth l (S0 + j)) := rfl
          have hPn : ∀ t, nv .f64 (sqF (nth l (S0 + j))) t = sqF (nth l (S0 + j)) := fun t => nv_le t hPP
          have hPd := dn_le hPP
          have hA : fop .add .f64 (enF l (S0 + j)) (sqF (nth l (S0 + j))) = enF l (S0 + j + 1) := rfl
          have hV : ∀ t, nv .f64 (enF l (S0 + j + 1)) t = enF l (S0 + j + 1) := fun t => nv_le t hE1
          have hD := dn_le hE1
          clear hE1 hPP hf hU
          generalize hEE : enF l (S0 + j + 1) = E' at *
          have HEE := Lib.hid hEE
          clear hEE
          generalize sqF (nth l (S0 + j)) = P at *
          generalize nth l (S0 + j) = X at *
          go_wp2
          go_roundg (M - (j + 1))
          case rel => exact ⟨j + 1, by omega, rfl, by go_num, congrArg _ HEE.out.symm, hbe2⟩
          case measure => omega
        · obtain rfl : M = j := by omega
          go_wp2
          go_roundg (4 - (k + 1))
          case rel => exact ⟨k + 1, by omega, rfl, by go_num, by rw [HR.out], hbe2⟩
          case measure => omega
    · obtain rfl : k = 4 := by omega
      have hv := nv_le 0 (QE.out _ (Nat.le_refl _))
      go_wp2
      go_ret2
      exact ⟨0, by rw [hv]; rfl, BW.out⟩
set_option maxRecDepth 100000 in
set_option maxHeartbeats 1600000 in
theorem l_EnergyOfRoom (r : Rv) (v : Nat) (code : Int) (w : World) (h : RvM w r)
    (HS : ∀ W (s : Rv), RvM W s → s.strip = r.strip → Calls Try.prog 39 #[.agg s.cells] W (RetFD v code W))
    (HI : ∀ W (s : Rv), RvM W s → s.strip = r.strip → Calls Try.prog 40 #[.agg s.cells] W (RetFD v code W)) :
    Calls Try.prog 11 #[.agg r.cells] w (RetV (.bool true) w) := by
  have HS := Lib.hid HS
  have HI := Lib.hid HI
  have H := Lib.hid h
  clear h
  by_cases ht : (r.e.n : Int) + (r.tn : Int) + ((r.c0.n : Int) + (r.c1.n : Int)) + ((r.l0.n : Int) + (r.l1.n : Int) + (r.l2.n : Int) + (r.l3.n : Int)) ≤ 1048576
  rotate_left
  · go_enter Try.func11, Try.ntmps11
    have G0 : Below w.heap.size w (w.alloc (.cells r.cells 77)) := Below.alloc (Below.refl _ _) (Nat.le_refl _) _
    go_wp2_with fail
    refine (c_szRoom_no r _ H.out.c (by omega)).mono ?_
    rintro e w1 ⟨rfl, hb1⟩
    have kxn : blkAt w1 w.heap.size = some (.cells r.cells 77) := (hb1.block _ (ltb (blk_alloc w (.cells r.cells 77)))).trans (blk_alloc w (.cells r.cells 77))
    have HB1 := Lib.hid (bUp (G0) hb1)
    have kx := kxn
    clear kxn
    have yx := ltb kx
    clear hb1
    clear G0
    have bE := HB1.out
    go_wp2
    go_ret
    exact ⟨rfl, by (repeat (first | (with_reducible refine Below.drewN ?_) | (with_reducible refine Below.drew ?_) | ((with_reducible refine Below.alloc ?_ ?_ _); rotate_left; (first | omega | (simp <;> omega))) | ((with_reducible refine Below.setCell ?_ ?_ _); rotate_left; (first | omega | (simp <;> omega))) | (with_reducible exact Below.refl _ _) | (with_reducible assumption)))⟩
  have M : Hid (RvB r) := ⟨by omega, by omega, by omega, by omega, by omega, by omega, by omega, by omega⟩
  have hl : ¬ (1048576 - r.e.n - r.tn - r.c0.n - r.c1.n - r.l0.n - r.l1.n - r.l2.n - r.l3.n : Int) < 0 := by omega
  go_enter Try.func11, Try.ntmps11
  have G0 : Below w.heap.size w (w.alloc (.cells r.cells 77)) := Below.alloc (Below.refl _ _) (Nat.le_refl _) _
  go_wp2_with fail
  refine (c_szRoom_ok r _ H.out.c (by omega)).mono ?_
  rintro e w1 ⟨rfl, hb1⟩
  have kxn : blkAt w1 w.heap.size = some (.cells r.cells 77) := (hb1.block _ (ltb (blk_alloc w (.cells r.cells 77)))).trans (blk_alloc w (.cells r.cells 77))
  have HB1 := Lib.hid (bUp (G0) hb1)
  have kx := kxn
  clear kxn
  have yx := ltb kx
  clear hb1
  clear G0
  go_wp2_with fail
  refine (c_toRoom r _ (RvM.below (B := w.heap.size) H.out (HB1.out) (Nat.le_refl _)) M.out).mono ?_
  rintro e w2 ⟨ss, rfl, hb2, vs, cs⟩
  have kxn : blkAt w2 w.heap.size = some (.cells r.cells 77) := (hb2.block _ (ltb kx)).trans kx
  have HB2 := Lib.hid (bUp (HB1.out) hb2)
  clear kx
  have kx := kxn
  clear kxn
  clear yx
  have yx := ltb kx
  clear hb2
  have Vs := Lib.hid vs
  have Cs := Lib.hid cs
  clear vs cs
  go_wp2_with fail
  refine (HS.out _ _ Vs.out Cs.out).mono ?_
  rintro e w3 ⟨tS, rfl, hb3⟩
  have kxn : blkAt w3 w.heap.size = some (.cells r.cells 77) := (hb3.block _ (ltb kx)).trans kx
  have HB3 := Lib.hid (bUp (HB2.out) hb3)
  have Vs := Lib.hid (Vs.out.below hb3 (Nat.le_refl _))
  clear kx
  have kx := kxn
  clear kxn
  clear yx
  have yx := ltb kx
  clear hb3
  clear Vs Cs
  go_wp2_with fail
  refine (c_toRoom r _ (RvM.below (B := w.heap.size) H.out (HB3.out) (Nat.le_refl _)) M.out).mono ?_
  rintro e w4 ⟨sx, rfl, hb4, vx, cx⟩
  have kxn : blkAt w4 w.heap.size = some (.cells r.cells 77) := (hb4.block _ (ltb kx)).trans kx
  have HB4 := Lib.hid (bUp (HB3.out) hb4)
  clear kx
  have kx := kxn
  clear kxn
  clear yx
  have yx := ltb kx
  clear hb4
  have Vx := Lib.hid vx
  have Cx := Lib.hid cx
  clear vx cx
  have G4 : Below w4.heap.size w4 (w4.alloc (.cells sx.cells 51)) := Below.alloc (Below.refl _ _) (Nat.le_refl _) _
  go_wp2_with fail
  refine (HI.out _ _ (RvM.below (B := w4.heap.size) Vx.out G4 (Nat.le_refl _)) Cx.out).mono ?_
  rintro e w5 ⟨tI, rfl, hb5⟩
  have kxn : blkAt w5 w.heap.size = some (.cells r.cells 77) := (hb5.block _ (ltb ((blk_alloc_ne w4 (.cells sx.cells 51) _ (ltb kx)).trans kx))).trans ((blk_alloc_ne w4 (.cells sx.cells 51) _ (ltb kx)).trans kx)
  have kzn : blkAt w5 w4.heap.size = some (.cells sx.cells 51) := (hb5.block _ (ltb (blk_alloc w4 (.cells sx.cells 51)))).trans (blk_alloc w4 (.cells sx.cells 51))
  have HB5 := Lib.hid (bUp (bUp (HB4.out) G4) hb5)
  have Vx := Lib.hid ((RvM.below (B := w4.heap.size) Vx.out G4 (Nat.le_refl _)).below hb5 (Nat.le_refl _))
  clear kx
  have kx := kxn
  clear kxn
  clear yx
  have yx := ltb kx
  have kz := kzn
  clear kzn
  have yz := ltb kz
  clear hb5
  clear G4
  go_wp2_with fail
  refine (c_sameFloatV _ _ _ _).mono ?_
  rintro e w6 ⟨rfl, hb6⟩
  have kxn : blkAt w6 w.heap.size = some (.cells r.cells 77) := (hb6.block _ (ltb kx)).trans kx
  have kzn : blkAt w6 w4.heap.size = some (.cells sx.cells 51) := (hb6.block _ (ltb kz)).trans kz
  have HB6 := Lib.hid (bUp (HB5.out) hb6)
  have Vx := Lib.hid (Vx.out.below hb6 (Nat.le_refl _))
  clear kx
  have kx := kxn
  clear kxn
  clear yx
  have yx := ltb kx
  clear kz
  have kz := kzn
  clear kzn
  clear yz
  have yz := ltb kz
  clear hb6
  go_wp2_with fail
  refine wp_region_grow [3] [2] (by kernel_rfl) (by kernel_rfl) (by kernel_rfl) ?_
  apply Exists.intro
  iterate 2 (apply lh_o; kernel_rfl; kernel_rfl; kernel_rfl; (intro W hW; have hWc := Grow.cells hW; have hWk := bblk hW; go_simp; exact ⟨OneV.mk _, Grow.refl _⟩))
  apply lh_w (fun g : Value => g) (fun g w' => RoomW r g w') (.bool false) (fun g w w' h hg => h.grow hg) (fun i j h => h)
  kernel_rfl
  kernel_rfl
  kernel_rfl
  · intro W hW
    have hWc := Grow.cells hW
    go_simp
    exact (c_toRoom r W (RvM.below (B := w.heap.size) H.out (HB6.out.trans (Below.mono hW HB6.out.size)) (Nat.le_refl _)) M.out).mono fun e w' ⟨s, he, hb, r1, r2⟩ => ⟨_, he, ⟨s, rfl, r1, r2⟩, hb⟩
  exact anti
  intro g
  (apply lh_h; kernel_rfl; kernel_rfl; kernel_rfl; (intro W hW; obtain ⟨hG, s2, rfl, k1, k2⟩ := hW; obtain ⟨pp, rfl⟩ := Rv.of_strip (k2.trans Cx.out.symm); have hWc := Grow.cells hG; go_simp; exact gV (c_eqRoom sx pp W (RvM.below (B := w6.heap.size) Vx.out hG (Nat.le_refl _)) k1)))
  (apply lh_o; kernel_rfl; kernel_rfl; kernel_rfl; (intro W hW; have hWc := Grow.cells hW; go_simp; exact ⟨OneV.mk _, Grow.refl _⟩))
  refine lh_nil ?_
  intro w7 hW7
  simp only [Act.put, List.setIfInBounds_toArray, List.set_cons_succ, List.set_cons_zero]
  have hb7 : Below w6.heap.size w6 w7 := hW7.1
  clear hW7
  have kxn : blkAt w7 w.heap.size = some (.cells r.cells 77) := (hb7.block _ (ltb kx)).trans kx
  have kzn : blkAt w7 w4.heap.size = some (.cells sx.cells 51) := (hb7.block _ (ltb kz)).trans kz
  have HB7 := Lib.hid (bUp (HB6.out) hb7)
  have Vx := Lib.hid (Vx.out.below hb7 (Nat.le_refl _))
  clear kx
  have kx := kxn
  clear kxn
  clear yx
  have yx := ltb kx
  clear kz
  have kz := kzn
  clear kzn
  clear yz
  have yz := ltb kz
  clear hb7
  have bE := HB7.out
  go_wp2
  go_ret
  exact ⟨rfl, by (repeat (first | (with_reducible refine Below.drewN ?_) | (with_reducible refine Below.drew ?_) | ((with_reducible refine Below.alloc ?_ ?_ _); rotate_left; (first | omega | (simp <;> omega))) | ((with_reducible refine Below.setCell ?_ ?_ _); rotate_left; (first | omega | (simp <;> omega))) | (with_reducible exact Below.refl _ _) | (with_reducible assumption)))⟩


theorem k_EnergyOfRoom (r : Rv) (w : World) (h : RvM w r) : Calls Try.prog 11 #[.agg r.cells] w (RetV (.bool true) w) := by
  cases hv : roomB r
  · exact l_EnergyOfRoom r 0 1 w h (fun W s hs e => c_sEnergyOfRoom_no s W hs (by rw [roomB_same e]; exact hv)) (fun W s hs e => c_EnergyOfRoom_no s W hs (by rw [roomB_same e]; exact hv))
  · exact l_EnergyOfRoom r (enR r) 0 w h (fun W s hs e => by rw [← enR_same e]; exact c_sEnergyOfRoom_ok s W hs (by rw [roomB_same e]; exact hv)) (fun W s hs e => by rw [← enR_same e]; exact c_EnergyOfRoom_ok s W hs (by rw [roomB_same e]; exact hv))
end Go.Proofs.Ytfhegjjgfaeinaa
