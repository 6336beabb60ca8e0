
/-
Is a room silent: the law, joined.
-/
import Derived.Test.YtfhegjjgfaeinaaYx
namespace Go.Proofs.Ytfhegjjgfaeinaa
open Go Go.RowKit Fl
theorem roomB_same {r s : Rv} (h : s.strip = r.strip) : roomB s = roomB r := by rw [← roomB_strip s, h, roomB_strip r]
set_option maxRecDepth 100000 in
set_option maxHeartbeats 1600000 in
theorem l_IsSilentRoom (r : Rv) (v : Bool) (code : Int) (w : World) (h : RvM w r)
    (HS : ∀ W (s : Rv), RvM W s → s.strip = r.strip → Calls Try.prog 41 #[.agg s.cells] W (RetV (.tuple #[.bool v, .int .i64 code]) W))
    (HI : ∀ W (s : Rv), RvM W s → s.strip = r.strip → Calls Try.prog 42 #[.agg s.cells] W (RetV (.tuple #[.bool v, .int .i64 code]) W)) :
    Calls Try.prog 12 #[.agg r.cells] w (RetV (.bool true) w) := by
  have HS := Lib.hid HS
  have HI := Lib.hid HI
  have H := Lib.hid h
  clear h
  by_cases ht : (r.e.n : Int) + (r.tn : Int) + ((r.c0.n : Int) + (r.c1.n : Int)) + ((r.l0.n : Int) + (r.l1.n : Int) + (r.l2.n : Int) + (r.l3.n : Int)) ≤ 1048576
  rotate_left
  · go_enter Try.func12, Try.ntmps12
    have G0 : Below w.heap.size w (w.alloc (.cells r.cells 77)) := Below.alloc (Below.refl _ _) (Nat.le_refl _) _
    go_wp2_with fail
    refine (c_szRoom_no r _ H.out.c (by omega)).mono ?_
    rintro e w1 ⟨rfl, hb1⟩
    have kxn : blkAt w1 w.heap.size = some (.cells r.cells 77) := (hb1.block _ (ltb (blk_alloc w (.cells r.cells 77)))).trans (blk_alloc w (.cells r.cells 77))
    have HB1 := Lib.hid (bUp (G0) hb1)
    have kx := kxn
    clear kxn
    have yx := ltb kx
    clear hb1
    clear G0
    have bE := HB1.out
    go_wp2
    go_ret
    exact ⟨rfl, by (repeat (first | (with_reducible refine Below.drewN ?_) | (with_reducible refine Below.drew ?_) | ((with_reducible refine Below.alloc ?_ ?_ _); rotate_left; (first | omega | (simp <;> omega))) | ((with_reducible refine Below.setCell ?_ ?_ _); rotate_left; (first | omega | (simp <;> omega))) | (with_reducible exact Below.refl _ _) | (with_reducible assumption)))⟩
  have M : Hid (RvB r) := ⟨by omega, by omega, by omega, by omega, by omega, by omega, by omega, by omega⟩
  have hl : ¬ (1048576 - r.e.n - r.tn - r.c0.n - r.c1.n - r.l0.n - r.l1.n - r.l2.n - r.l3.n : Int) < 0 := by omega
  go_enter Try.func12, Try.ntmps12
  have G0 : Below w.heap.size w (w.alloc (.cells r.cells 77)) := Below.alloc (Below.refl _ _) (Nat.le_refl _) _
  go_wp2_with fail
  refine (c_szRoom_ok r _ H.out.c (by omega)).mono ?_
  rintro e w1 ⟨rfl, hb1⟩
  have kxn : blkAt w1 w.heap.size = some (.cells r.cells 77) := (hb1.block _ (ltb (blk_alloc w (.cells r.cells 77)))).trans (blk_alloc w (.cells r.cells 77))
  have HB1 := Lib.hid (bUp (G0) hb1)
  have kx := kxn
  clear kxn
  have yx := ltb kx
  clear hb1
  clear G0
  go_wp2_with fail
  refine (c_toRoom r _ (RvM.below (B := w.heap.size) H.out (HB1.out) (Nat.le_refl _)) M.out).mono ?_
  rintro e w2 ⟨ss, rfl, hb2, vs, cs⟩
  have kxn : blkAt w2 w.heap.size = some (.cells r.cells 77) := (hb2.block _ (ltb kx)).trans kx
  have HB2 := Lib.hid (bUp (HB1.out) hb2)
  clear kx
  have kx := kxn
  clear kxn
  clear yx
  have yx := ltb kx
  clear hb2
  have Vs := Lib.hid vs
  have Cs := Lib.hid cs
  clear vs cs
  go_wp2_with fail
  refine (HS.out _ _ Vs.out Cs.out).mono ?_
  rintro e w3 ⟨rfl, hb3⟩
  have kxn : blkAt w3 w.heap.size = some (.cells r.cells 77) := (hb3.block _ (ltb kx)).trans kx
  have HB3 := Lib.hid (bUp (HB2.out) hb3)
  have Vs := Lib.hid (Vs.out.below hb3 (Nat.le_refl _))
  clear kx
  have kx := kxn
  clear kxn
  clear yx
  have yx := ltb kx
  clear hb3
  clear Vs Cs
  go_wp2_with fail
  refine (c_toRoom r _ (RvM.below (B := w.heap.size) H.out (HB3.out) (Nat.le_refl _)) M.out).mono ?_
  rintro e w4 ⟨sx, rfl, hb4, vx, cx⟩
  have kxn : blkAt w4 w.heap.size = some (.cells r.cells 77) := (hb4.block _ (ltb kx)).trans kx
  have HB4 := Lib.hid (bUp (HB3.out) hb4)
  clear kx
  have kx := kxn
  clear kxn
  clear yx
  have yx := ltb kx
  clear hb4
  have Vx := Lib.hid vx
  have Cx := Lib.hid cx
  clear vx cx
  have G4 : Below w4.heap.size w4 (w4.alloc (.cells sx.cells 51)) := Below.alloc (Below.refl _ _) (Nat.le_refl _) _
  go_wp2_with fail
  refine (HI.out _ _ (RvM.below (B := w4.heap.size) Vx.out G4 (Nat.le_refl _)) Cx.out).mono ?_
  rintro e w5 ⟨rfl, hb5⟩
  have kxn : blkAt w5 w.heap.size = some (.cells r.cells 77) := (hb5.block _ (ltb ((blk_alloc_ne w4 (.cells sx.cells 51) _ (ltb kx)).trans kx))).trans ((blk_alloc_ne w4 (.cells sx.cells 51) _ (ltb kx)).trans kx)
  have kzn : blkAt w5 w4.heap.size = some (.cells sx.cells 51) := (hb5.block _ (ltb (blk_alloc w4 (.cells sx.cells 51)))).trans (blk_alloc w4 (.cells sx.cells 51))
  have HB5 := Lib.hid (bUp (bUp (HB4.out) G4) hb5)
  have Vx := Lib.hid ((RvM.below (B := w4.heap.size) Vx.out G4 (Nat.le_refl _)).below hb5 (Nat.le_refl _))
  clear kx
  have kx := kxn
  clear kxn
  clear yx
  have yx := ltb kx
  have kz := kzn
  clear kzn
  have yz := ltb kz
  clear hb5
  clear G4
  go_wp2_with fail
  refine wp_region_grow [3] [2] (by kernel_rfl) (by kernel_rfl) (by kernel_rfl) ?_
  apply Exists.intro
  iterate 2 (apply lh_o; kernel_rfl; kernel_rfl; kernel_rfl; (intro W hW; have hWc := Grow.cells hW; have hWk := bblk hW; go_simp; exact ⟨OneV.mk _, Grow.refl _⟩))
  apply lh_w (fun g : Value => g) (fun g w' => RoomW r g w') (.bool false) (fun g w w' h hg => h.grow hg) (fun i j h => h)
  kernel_rfl
  kernel_rfl
  kernel_rfl
  · intro W hW
    have hWc := Grow.cells hW
    go_simp
    exact (c_toRoom r W (RvM.below (B := w.heap.size) H.out (HB5.out.trans (Below.mono hW HB5.out.size)) (Nat.le_refl _)) M.out).mono fun e w' ⟨s, he, hb, r1, r2⟩ => ⟨_, he, ⟨s, rfl, r1, r2⟩, hb⟩
  exact anti
  intro g
  (apply lh_h; kernel_rfl; kernel_rfl; kernel_rfl; (intro W hW; obtain ⟨hG, s2, rfl, k1, k2⟩ := hW; obtain ⟨pp, rfl⟩ := Rv.of_strip (k2.trans Cx.out.symm); have hWc := Grow.cells hG; go_simp; exact gV (c_eqRoom sx pp W (RvM.below (B := w5.heap.size) Vx.out hG (Nat.le_refl _)) k1)))
  (apply lh_o; kernel_rfl; kernel_rfl; kernel_rfl; (intro W hW; have hWc := Grow.cells hW; go_simp; exact ⟨OneV.mk _, Grow.refl _⟩))
  refine lh_nil ?_
  intro w6 hW6
  simp only [Act.put, List.setIfInBounds_toArray, List.set_cons_succ, List.set_cons_zero]
  have hb6 : Below w5.heap.size w5 w6 := hW6.1
  clear hW6
  have kxn : blkAt w6 w.heap.size = some (.cells r.cells 77) := (hb6.block _ (ltb kx)).trans kx
  have kzn : blkAt w6 w4.heap.size = some (.cells sx.cells 51) := (hb6.block _ (ltb kz)).trans kz
  have HB6 := Lib.hid (bUp (HB5.out) hb6)
  have Vx := Lib.hid (Vx.out.below hb6 (Nat.le_refl _))
  clear kx
  have kx := kxn
  clear kxn
  clear yx
  have yx := ltb kx
  clear kz
  have kz := kzn
  clear kzn
  clear yz
  have yz := ltb kz
  clear hb6
  have bE := HB6.out
  go_wp2
  go_ret
  exact ⟨rfl, by (repeat (first | (with_reducible refine Below.drewN ?_) | (with_reducible refine Below.drew ?_) | ((with_reducible refine Below.alloc ?_ ?_ _); rotate_left; (first | omega | (simp <;> omega))) | ((with_reducible refine Below.setCell ?_ ?_ _); rotate_left; (first | omega | (simp <;> omega))) | (with_reducible exact Below.refl _ _) | (with_reducible assumption)))⟩


set_option maxHeartbeats 1000000 in
theorem c_sIsSilentRoom_no (r : Rv) (w : World) (h : RvM w r) (hv : roomB r = false) : Calls Try.prog 41 #[.agg r.cells] w (RetV (.tuple #[.bool false, .int .i64 1]) w) := by
  have N := Lib.hid h
  have HV : Hid (∀ W b {T : TypeId}, Below w.heap.size w W → W.heap[b]? = some (.cells r.cells T) → Calls Try.prog 110 #[.pointer (some ⟨b, 0, none⟩)] W (RetV (.bool false) W)) := fun W b T hW hb => hv ▸ c_l06Ok b r W hb (h.below hW (Nat.le_refl _))
  clear h hv
  go_enter Try.func41, Try.ntmps41
  go_wp2_with fail
  refine (HV.out _ _ (by (repeat (first | (with_reducible refine Below.drewN ?_) | (with_reducible refine Below.drew ?_) | ((with_reducible refine Below.alloc ?_ ?_ _); rotate_left; (first | omega | (simp <;> omega))) | ((with_reducible refine Below.setCell ?_ ?_ _); rotate_left; (first | omega | (simp <;> omega))) | (with_reducible exact Below.refl _ _) | (with_reducible assumption)))) (MapKept.heap_alloc w _).1).mono ?_
  rintro e w1 ⟨rfl, hb1⟩
  have b1 : Below w.heap.size w w1 := Below.trans (by (repeat (first | (with_reducible refine Below.drewN ?_) | (with_reducible refine Below.drew ?_) | ((with_reducible refine Below.alloc ?_ ?_ _); rotate_left; (first | omega | (simp <;> omega))) | ((with_reducible refine Below.setCell ?_ ?_ _); rotate_left; (first | omega | (simp <;> omega))) | (with_reducible exact Below.refl _ _) | (with_reducible assumption)))) (hb1.mono (by simp))
  have kb : w1.heap[w.heap.size]? = some (.cells r.cells 51) := (hb1.block _ (by simp)).trans (MapKept.heap_alloc w _).1
  clear hb1
  go_wp2
  go_ret2
  exact ⟨rfl, b1⟩
set_option maxHeartbeats 1000000 in
theorem c_IsSilentRoom_no (r : Rv) (w : World) (h : RvM w r) (hv : roomB r = false) : Calls Try.prog 42 #[.agg r.cells] w (RetV (.tuple #[.bool false, .int .i64 1]) w) := by
  have N := Lib.hid h
  have HV : Hid (∀ W, Below w.heap.size w W → Calls Try.prog 38 #[.agg r.cells] W (RetV (.bool false) W)) := fun W hW => hv ▸ c_ValidRoom r W (h.below hW (Nat.le_refl _))
  clear h hv
  go_enter Try.func42, Try.ntmps42
  go_wp2_with fail
  refine (HV.out _ (by (repeat (first | (with_reducible refine Below.drewN ?_) | (with_reducible refine Below.drew ?_) | ((with_reducible refine Below.alloc ?_ ?_ _); rotate_left; (first | omega | (simp <;> omega))) | ((with_reducible refine Below.setCell ?_ ?_ _); rotate_left; (first | omega | (simp <;> omega))) | (with_reducible exact Below.refl _ _) | (with_reducible assumption))))).mono ?_
  rintro e w1 ⟨rfl, hb1⟩
  have b1 : Below w.heap.size w w1 := Below.trans (by (repeat (first | (with_reducible refine Below.drewN ?_) | (with_reducible refine Below.drew ?_) | ((with_reducible refine Below.alloc ?_ ?_ _); rotate_left; (first | omega | (simp <;> omega))) | ((with_reducible refine Below.setCell ?_ ?_ _); rotate_left; (first | omega | (simp <;> omega))) | (with_reducible exact Below.refl _ _) | (with_reducible assumption)))) (hb1.mono (by simp))
  have kb : w1.heap[w.heap.size]? = some (.cells r.cells 51) := (hb1.block _ (by simp)).trans (MapKept.heap_alloc w _).1
  clear hb1
  go_wp2
  go_ret2
  exact ⟨rfl, b1⟩
set_option maxHeartbeats 1000000 in
theorem c_sIsSilentRoom_ok (r : Rv) (w : World) (h : RvM w r) (hv : roomB r = true) : Calls Try.prog 41 #[.agg r.cells] w (RetV (.tuple #[.bool (silB r), .int .i64 0]) w) := by
  have N := Lib.hid h
  have HV : Hid (∀ W b {T : TypeId}, Below w.heap.size w W → W.heap[b]? = some (.cells r.cells T) → Calls Try.prog 110 #[.pointer (some ⟨b, 0, none⟩)] W (RetV (.bool true) W)) := fun W b T hW hb => hv ▸ c_l06Ok b r W hb (h.below hW (Nat.le_refl _))
  clear h hv
  go_enter Try.func41, Try.ntmps41
  go_wp2_with fail
  refine (HV.out _ _ (by (repeat (first | (with_reducible refine Below.drewN ?_) | (with_reducible refine Below.drew ?_) | ((with_reducible refine Below.alloc ?_ ?_ _); rotate_left; (first | omega | (simp <;> omega))) | ((with_reducible refine Below.setCell ?_ ?_ _); rotate_left; (first | omega | (simp <;> omega))) | (with_reducible exact Below.refl _ _) | (with_reducible assumption)))) (MapKept.heap_alloc w _).1).mono ?_
  rintro e w1 ⟨rfl, hb1⟩
  have b1 : Below w.heap.size w w1 := Below.trans (by (repeat (first | (with_reducible refine Below.drewN ?_) | (with_reducible refine Below.drew ?_) | ((with_reducible refine Below.alloc ?_ ?_ _); rotate_left; (first | omega | (simp <;> omega))) | ((with_reducible refine Below.setCell ?_ ?_ _); rotate_left; (first | omega | (simp <;> omega))) | (with_reducible exact Below.refl _ _) | (with_reducible assumption)))) (hb1.mono (by simp))
  have kb : w1.heap[w.heap.size]? = some (.cells r.cells 51) := (hb1.block _ (by simp)).trans (MapKept.heap_alloc w _).1
  clear hb1
  go_wp2_with fail
  refine (c_l06Silent _ r _ kb (N.out.below b1 (Nat.le_refl _))).mono ?_
  rintro e w2 ⟨rfl, hb2⟩
  go_wp2
  go_ret2
  exact ⟨rfl, b1.trans (hb2.mono b1.size)⟩
set_option maxHeartbeats 1000000 in
theorem c_IsSilentRoom_ok (r : Rv) (w : World) (h : RvM w r) (hv : roomB r = true) : Calls Try.prog 42 #[.agg r.cells] w (RetV (.tuple #[.bool (silB r), .int .i64 0]) w) := by
  have N := Lib.hid h
  have HV : Hid (∀ W, Below w.heap.size w W → Calls Try.prog 38 #[.agg r.cells] W (RetV (.bool true) W)) := fun W hW => hv ▸ c_ValidRoom r W (h.below hW (Nat.le_refl _))
  have HR : Hid (∀ j, j < 7 → ringB (rat [r.e, r.c0, r.c1, r.l0, r.l1, r.l2, r.l3] j).n (rat [r.e, r.c0, r.c1, r.l0, r.l1, r.l2, r.l3] j).i = true) := by
    unfold roomB at hv
    simp only [Bool.and_eq_true] at hv
    obtain ⟨v0, v1, v2, v3, _⟩ := hv
    unfold rokB at v0
    unfold combB at v1 v2
    simp only [Bool.and_eq_true] at v0 v1 v2
    have ok : ∀ q : Rg, q.ok = true → ringB q.n q.i = true := fun q hq => by unfold Rg.ok at hq; rw [Bool.and_eq_true] at hq; exact hq.1
    simp only [rgsTo, Bool.and_eq_true] at v3
    intro j hj
    match j, hj with
    | 0, _ => exact v0.1
    | 1, _ => exact v1.1.1
    | 2, _ => exact v2.1.1
    | 3, _ => exact ok _ v3.1.1.1.2
    | 4, _ => exact ok _ v3.1.1.2
    | 5, _ => exact ok _ v3.1.2
    | 6, _ => exact ok _ v3.2
    | j + 7, h => exact absurd h (by omega)
  have HZ := Lib.hid (rgs7 r)
  clear h hv
  go_enter Try.func42, Try.ntmps42
  go_wp2_with fail
  refine (HV.out _ (by (repeat (first | (with_reducible refine Below.drewN ?_) | (with_reducible refine Below.drew ?_) | ((with_reducible refine Below.alloc ?_ ?_ _); rotate_left; (first | omega | (simp <;> omega))) | ((with_reducible refine Below.setCell ?_ ?_ _); rotate_left; (first | omega | (simp <;> omega))) | (with_reducible exact Below.refl _ _) | (with_reducible assumption))))).mono ?_
  rintro e w1 ⟨rfl, hb1⟩
  have b1 : Below w.heap.size w w1 := Below.trans (by (repeat (first | (with_reducible refine Below.drewN ?_) | (with_reducible refine Below.drew ?_) | ((with_reducible refine Below.alloc ?_ ?_ _); rotate_left; (first | omega | (simp <;> omega))) | ((with_reducible refine Below.setCell ?_ ?_ _); rotate_left; (first | omega | (simp <;> omega))) | (with_reducible exact Below.refl _ _) | (with_reducible assumption)))) (hb1.mono (by simp))
  have kb : w1.heap[w.heap.size]? = some (.cells r.cells 51) := (hb1.block _ (by simp)).trans (MapKept.heap_alloc w _).1
  clear hb1
  have HKB := Lib.hid kb
  go_wp2_with fail
  refine (c_roomRingsP _ r _ kb (N.out.below b1 (Nat.le_refl _))).mono ?_
  rintro e w2 ⟨g, cg, rfl, hb2, hp2⟩
  have b2 := b1.trans (hb2.mono b1.size)
  have kb2 := (hb2.block _ (Array.getElem?_eq_some_iff.1 kb).1).trans kb
  have HP := Lib.hid (c_areQuiet g 7 cg _ _ hp2 HR.out)
  clear kb hb2 hp2
  have hS : silB r = (rgsZero [r.e, r.c0, r.c1, r.l0, r.l1, r.l2, r.l3] 7 && stTo r 4) := by unfold silB; rw [HZ.out, Bool.and_comm]
  have HS := Lib.hid hS
  clear hS
  cases z : rgsZero [r.e, r.c0, r.c1, r.l0, r.l1, r.l2, r.l3] 7
  · rw [z] at HP HS
    clear z
    go_wp2_with fail
    refine HP.out.mono ?_
    rintro e w3 ⟨rfl, hb3⟩
    go_wp2
    go_ret2
    exact ⟨by rw [HS.out]; rfl, b2.trans (hb3.mono b2.size)⟩
  rw [z] at HP HS
  clear z
  go_wp2_with fail
  refine HP.out.mono ?_
  rintro e w3 ⟨rfl, hb3⟩
  have b3 := b2.trans (hb3.mono b2.size)
  have kb3 := (hb3.block _ (Array.getElem?_eq_some_iff.1 kb2).1).trans kb2
  clear kb2 hb3
  go_wp2_with fail
  refine (c_roomStill _ r _ kb3).mono ?_
  rintro e w4 ⟨rfl, hb4⟩
  go_wp2
  go_ret2
  exact ⟨by rw [HS.out]; rfl, b3.trans (hb4.mono b3.size)⟩
theorem k_IsSilentRoom (r : Rv) (w : World) (h : RvM w r) : Calls Try.prog 12 #[.agg r.cells] w (RetV (.bool true) w) := by
  cases hv : roomB r
  · exact l_IsSilentRoom r false 1 w h (fun W s hs e => c_sIsSilentRoom_no s W hs (by rw [roomB_same e]; exact hv)) (fun W s hs e => c_IsSilentRoom_no s W hs (by rw [roomB_same e]; exact hv))
  · exact l_IsSilentRoom r (silB r) 0 w h (fun W s hs e => by rw [← silB_same e]; exact c_sIsSilentRoom_ok s W hs (by rw [roomB_same e]; exact hv)) (fun W s hs e => by rw [← silB_same e]; exact c_IsSilentRoom_ok s W hs (by rw [roomB_same e]; exact hv))
end Go.Proofs.Ytfhegjjgfaeinaa
