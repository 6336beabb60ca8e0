
/-
The walk of the law of SameRoom.
-/
import Derived.Test.YtfhegjjgfaeinaaYl
import Derived.Test.YtfhegjjgfaeinaaZs
namespace Go.Proofs.Ytfhegjjgfaeinaa
open Go Go.RowKit Fl
set_option maxRecDepth 100000 in
set_option maxHeartbeats 1600000 in
theorem l_SameRoom (r y_r : Rv) (v : Bool) (w : World) (h : RvM w r) (y_h : RvM w y_r)
    (HS : ∀ W (s t : Rv), RvM W s → RvM W t → s.strip = r.strip → t.strip = y_r.strip → Calls Try.prog 34 #[.agg s.cells, .agg t.cells] W (RetV (.bool v) W))
    (HI : ∀ W (s t : Rv), RvM W s → RvM W t → s.strip = r.strip → t.strip = y_r.strip → Calls Try.prog 36 #[.agg s.cells, .agg t.cells] W (RetV (.bool v) W)) :
    Calls Try.prog 9 #[.agg r.cells, .agg y_r.cells] w (RetV (.bool true) w) := by
  have HS := Lib.hid HS
  have HI := Lib.hid HI
  have H := Lib.hid h
  have y_H := Lib.hid y_h
  clear h y_h
  by_cases ht : (r.e.n : Int) + (r.tn : Int) + ((r.c0.n : Int) + (r.c1.n : Int)) + ((r.l0.n : Int) + (r.l1.n : Int) + (r.l2.n : Int) + (r.l3.n : Int)) ≤ 1048576
  rotate_left
  · go_enter Try.func9, Try.ntmps9
    go_upto_region 1 with fail
    refine wp_named ?_
    intro w1 hW0
    have KK := two_alloc w (.cells r.cells 77) (.cells y_r.cells 77)
    rw [← hW0] at KK
    obtain ⟨kx, ky, zW, bW⟩ := KK
    clear hW0
    have HB1 := Lib.hid bW
    clear bW zW
    have kx : blkAt w1 w.heap.size = some (.cells r.cells 77) := kx
    have ky : blkAt w1 (w.heap.size + 1) = some (.cells y_r.cells 77) := ky
    have yx := ltb kx
    have yy := ltb ky
    go_wp2_with fail
    refine (c_szRoom_no r _ H.out.c (by omega)).mono ?_
    rintro e w2 ⟨rfl, hb2⟩
    have kxn : blkAt w2 w.heap.size = some (.cells r.cells 77) := (hb2.block _ (ltb kx)).trans kx
    have kyn : blkAt w2 (w.heap.size + 1) = some (.cells y_r.cells 77) := (hb2.block _ (ltb ky)).trans ky
    have HB2 := Lib.hid (bUp (HB1.out) hb2)
    clear kx
    have kx := kxn
    clear kxn
    clear yx
    have yx := ltb kx
    clear ky
    have ky := kyn
    clear kyn
    clear yy
    have yy := ltb ky
    clear hb2
    have bE := HB2.out
    go_wp2
    go_ret
    exact ⟨rfl, by (repeat (first | (with_reducible refine Below.drewN ?_) | (with_reducible refine Below.drew ?_) | ((with_reducible refine Below.alloc ?_ ?_ _); rotate_left; (first | omega | (simp <;> omega))) | ((with_reducible refine Below.setCell ?_ ?_ _); rotate_left; (first | omega | (simp <;> omega))) | (with_reducible exact Below.refl _ _) | (with_reducible assumption)))⟩
  have hl : ¬ (1048576 - r.e.n - r.tn - r.c0.n - r.c1.n - r.l0.n - r.l1.n - r.l2.n - r.l3.n : Int) < 0 := by omega
  by_cases ht2 : (y_r.e.n : Int) + (y_r.tn : Int) + ((y_r.c0.n : Int) + (y_r.c1.n : Int)) + ((y_r.l0.n : Int) + (y_r.l1.n : Int) + (y_r.l2.n : Int) + (y_r.l3.n : Int)) ≤ 1048576 - r.e.n - r.tn - r.c0.n - r.c1.n - r.l0.n - r.l1.n - r.l2.n - r.l3.n
  rotate_left
  · go_enter Try.func9, Try.ntmps9
    go_upto_region 1 with fail
    refine wp_named ?_
    intro w1 hW0
    have KK := two_alloc w (.cells r.cells 77) (.cells y_r.cells 77)
    rw [← hW0] at KK
    obtain ⟨kx, ky, zW, bW⟩ := KK
    clear hW0
    have HB1 := Lib.hid bW
    clear bW zW
    have kx : blkAt w1 w.heap.size = some (.cells r.cells 77) := kx
    have ky : blkAt w1 (w.heap.size + 1) = some (.cells y_r.cells 77) := ky
    have yx := ltb kx
    have yy := ltb ky
    go_wp2_with fail
    refine (c_szRoom_ok r _ H.out.c (by omega)).mono ?_
    rintro e w2 ⟨rfl, hb2⟩
    have kxn : blkAt w2 w.heap.size = some (.cells r.cells 77) := (hb2.block _ (ltb kx)).trans kx
    have kyn : blkAt w2 (w.heap.size + 1) = some (.cells y_r.cells 77) := (hb2.block _ (ltb ky)).trans ky
    have HB2 := Lib.hid (bUp (HB1.out) hb2)
    clear kx
    have kx := kxn
    clear kxn
    clear yx
    have yx := ltb kx
    clear ky
    have ky := kyn
    clear kyn
    clear yy
    have yy := ltb ky
    clear hb2
    go_wp2_with fail
    refine (c_szRoom_noL y_r (1048576 - r.e.n - r.tn - r.c0.n - r.c1.n - r.l0.n - r.l1.n - r.l2.n - r.l3.n) _ y_H.out.c (by omega) (by omega) (by omega)).mono ?_
    rintro e w3 ⟨rfl, hb3⟩
    have kxn : blkAt w3 w.heap.size = some (.cells r.cells 77) := (hb3.block _ (ltb kx)).trans kx
    have kyn : blkAt w3 (w.heap.size + 1) = some (.cells y_r.cells 77) := (hb3.block _ (ltb ky)).trans ky
    have HB3 := Lib.hid (bUp (HB2.out) hb3)
    clear kx
    have kx := kxn
    clear kxn
    clear yx
    have yx := ltb kx
    clear ky
    have ky := kyn
    clear kyn
    clear yy
    have yy := ltb ky
    clear hb3
    have bE := HB3.out
    go_wp2
    go_ret
    exact ⟨rfl, by (repeat (first | (with_reducible refine Below.drewN ?_) | (with_reducible refine Below.drew ?_) | ((with_reducible refine Below.alloc ?_ ?_ _); rotate_left; (first | omega | (simp <;> omega))) | ((with_reducible refine Below.setCell ?_ ?_ _); rotate_left; (first | omega | (simp <;> omega))) | (with_reducible exact Below.refl _ _) | (with_reducible assumption)))⟩
  have M : Hid (RvB r) := ⟨by omega, by omega, by omega, by omega, by omega, by omega, by omega, by omega⟩
  have y_M : Hid (RvB y_r) := ⟨by omega, by omega, by omega, by omega, by omega, by omega, by omega, by omega⟩
  have hl2 : ¬ (1048576 - r.e.n - r.tn - r.c0.n - r.c1.n - r.l0.n - r.l1.n - r.l2.n - r.l3.n - y_r.e.n - y_r.tn - y_r.c0.n - y_r.c1.n - y_r.l0.n - y_r.l1.n - y_r.l2.n - y_r.l3.n : Int) < 0 := by omega
  go_enter Try.func9, Try.ntmps9
  go_upto_region 1 with fail
  refine wp_named ?_
  intro w1 hW0
  have KK := two_alloc w (.cells r.cells 77) (.cells y_r.cells 77)
  rw [← hW0] at KK
  obtain ⟨kx, ky, zW, bW⟩ := KK
  clear hW0
  have HB1 := Lib.hid bW
  clear bW zW
  have kx : blkAt w1 w.heap.size = some (.cells r.cells 77) := kx
  have ky : blkAt w1 (w.heap.size + 1) = some (.cells y_r.cells 77) := ky
  have yx := ltb kx
  have yy := ltb ky
  go_wp2_with fail
  refine (c_szRoom_ok r _ H.out.c (by omega)).mono ?_
  rintro e w2 ⟨rfl, hb2⟩
  have kxn : blkAt w2 w.heap.size = some (.cells r.cells 77) := (hb2.block _ (ltb kx)).trans kx
  have kyn : blkAt w2 (w.heap.size + 1) = some (.cells y_r.cells 77) := (hb2.block _ (ltb ky)).trans ky
  have HB2 := Lib.hid (bUp (HB1.out) hb2)
  clear kx
  have kx := kxn
  clear kxn
  clear yx
  have yx := ltb kx
  clear ky
  have ky := kyn
  clear kyn
  clear yy
  have yy := ltb ky
  clear hb2
  go_wp2_with fail
  refine (c_szRoom_okL y_r (1048576 - r.e.n - r.tn - r.c0.n - r.c1.n - r.l0.n - r.l1.n - r.l2.n - r.l3.n) _ y_H.out.c (by omega) (by omega)).mono ?_
  rintro e w3 ⟨rfl, hb3⟩
  have kxn : blkAt w3 w.heap.size = some (.cells r.cells 77) := (hb3.block _ (ltb kx)).trans kx
  have kyn : blkAt w3 (w.heap.size + 1) = some (.cells y_r.cells 77) := (hb3.block _ (ltb ky)).trans ky
  have HB3 := Lib.hid (bUp (HB2.out) hb3)
  clear kx
  have kx := kxn
  clear kxn
  clear yx
  have yx := ltb kx
  clear ky
  have ky := kyn
  clear kyn
  clear yy
  have yy := ltb ky
  clear hb3
  go_wp2_with fail
  refine wp_region_grow [4] [1, 3] (by kernel_rfl) (by kernel_rfl) (by kernel_rfl) ?_
  apply Exists.intro
  (apply lh_o; kernel_rfl; kernel_rfl; kernel_rfl; (intro W hW; have hWc := Grow.cells hW; have hWk := bblk hW; go_simp; exact ⟨OneV.mk _, Grow.refl _⟩))
  apply lh_w (fun g : Value => g) (fun g w' => RoomW r g w') (.bool false) (fun g w w' h hg => h.grow hg) (fun i j h => h)
  kernel_rfl
  kernel_rfl
  kernel_rfl
  · intro W hW
    have hWc := Grow.cells hW
    go_simp
    exact (c_toRoom r W (RvM.below (B := w.heap.size) H.out (HB3.out.trans (Below.mono hW HB3.out.size)) (Nat.le_refl _)) M.out).mono fun e w' ⟨s, he, hb, r1, r2⟩ => ⟨_, he, ⟨s, rfl, r1, r2⟩, hb⟩
  exact anti
  intro g
  (apply lh_o; kernel_rfl; kernel_rfl; kernel_rfl; (intro W hW; have hWc := Grow.cells hW; have hWk := bblk hW; go_simp; exact ⟨OneV.mk _, Grow.refl _⟩))
  apply lh_w (fun g : Value => g) (fun g w' => RoomW y_r g w') (.bool false) (fun g w w' h hg => h.grow hg) (fun i j h => h)
  kernel_rfl
  kernel_rfl
  kernel_rfl
  · intro W hW
    have hWc := Grow.cells hW
    go_simp
    exact (c_toRoom y_r W (RvM.below (B := w.heap.size) y_H.out (HB3.out.trans (Below.mono hW HB3.out.size)) (Nat.le_refl _)) y_M.out).mono fun e w' ⟨s, he, hb, r1, r2⟩ => ⟨_, he, ⟨s, rfl, r1, r2⟩, hb⟩
  exact anti
  intro gy_
  (apply lh_h; kernel_rfl; kernel_rfl; kernel_rfl; (intro W hW; obtain ⟨⟨hG, s1, rfl, k1, k2⟩, s2, rfl, k3, k4⟩ := hW; have hWc := Grow.cells hG; go_simp; exact gV (HS.out W s1 s2 k1 k3 k2 k4)))
  (apply lh_o; kernel_rfl; kernel_rfl; kernel_rfl; (intro W hW; have hWc := Grow.cells hW; go_simp; exact ⟨OneV.mk _, Grow.refl _⟩))
  refine lh_nil ?_
  intro w4 hW4
  simp only [Act.put, List.setIfInBounds_toArray, List.set_cons_succ, List.set_cons_zero]
  have hb4 : Below w3.heap.size w3 w4 := hW4.1.1
  clear hW4
  have kxn : blkAt w4 w.heap.size = some (.cells r.cells 77) := (hb4.block _ (ltb kx)).trans kx
  have kyn : blkAt w4 (w.heap.size + 1) = some (.cells y_r.cells 77) := (hb4.block _ (ltb ky)).trans ky
  have HB4 := Lib.hid (bUp (HB3.out) hb4)
  clear kx
  have kx := kxn
  clear kxn
  clear yx
  have yx := ltb kx
  clear ky
  have ky := kyn
  clear kyn
  clear yy
  have yy := ltb ky
  clear hb4
  go_wp2_with fail
  refine (c_toRoom r _ (RvM.below (B := w.heap.size) H.out (HB4.out) (Nat.le_refl _)) M.out).mono ?_
  rintro e w5 ⟨sx, rfl, hb5, vx, cx⟩
  have kxn : blkAt w5 w.heap.size = some (.cells r.cells 77) := (hb5.block _ (ltb kx)).trans kx
  have kyn : blkAt w5 (w.heap.size + 1) = some (.cells y_r.cells 77) := (hb5.block _ (ltb ky)).trans ky
  have HB5 := Lib.hid (bUp (HB4.out) hb5)
  clear kx
  have kx := kxn
  clear kxn
  clear yx
  have yx := ltb kx
  clear ky
  have ky := kyn
  clear kyn
  clear yy
  have yy := ltb ky
  clear hb5
  have Vx := Lib.hid vx
  have Cx := Lib.hid cx
  clear vx cx
  have G5 : Below w5.heap.size w5 (w5.alloc (.cells sx.cells 51)) := Below.alloc (Below.refl _ _) (Nat.le_refl _) _
  go_wp2_with fail
  refine (c_toRoom y_r _ (RvM.below (B := w.heap.size) y_H.out (bUp (HB5.out) G5) (Nat.le_refl _)) y_M.out).mono ?_
  rintro e w6 ⟨su, rfl, hb6, vu, cu⟩
  have kxn : blkAt w6 w.heap.size = some (.cells r.cells 77) := (hb6.block _ (ltb ((blk_alloc_ne w5 (.cells sx.cells 51) _ (ltb kx)).trans kx))).trans ((blk_alloc_ne w5 (.cells sx.cells 51) _ (ltb kx)).trans kx)
  have kyn : blkAt w6 (w.heap.size + 1) = some (.cells y_r.cells 77) := (hb6.block _ (ltb ((blk_alloc_ne w5 (.cells sx.cells 51) _ (ltb ky)).trans ky))).trans ((blk_alloc_ne w5 (.cells sx.cells 51) _ (ltb ky)).trans ky)
  have kzn : blkAt w6 w5.heap.size = some (.cells sx.cells 51) := (hb6.block _ (ltb (blk_alloc w5 (.cells sx.cells 51)))).trans (blk_alloc w5 (.cells sx.cells 51))
  have HB6 := Lib.hid (bUp (bUp (HB5.out) G5) hb6)
  have Vx := Lib.hid ((RvM.below (B := w5.heap.size) Vx.out G5 (Nat.le_refl _)).below hb6 (Nat.le_refl _))
  clear kx
  have kx := kxn
  clear kxn
  clear yx
  have yx := ltb kx
  clear ky
  have ky := kyn
  clear kyn
  clear yy
  have yy := ltb ky
  have kz := kzn
  clear kzn
  have yz := ltb kz
  clear hb6
  clear G5
  have Vu := Lib.hid vu
  have Cu := Lib.hid cu
  clear vu cu
  have G6 : Below w6.heap.size w6 (w6.alloc (.cells su.cells 51)) := Below.alloc (Below.refl _ _) (Nat.le_refl _) _
  go_wp2_with fail
  refine (HI.out _ _ _ (RvM.below (B := w6.heap.size) Vx.out G6 (Nat.le_refl _)) (RvM.below (B := w6.heap.size) Vu.out G6 (Nat.le_refl _)) Cx.out Cu.out).mono ?_
  rintro e w7 ⟨rfl, hb7⟩
  have kxn : blkAt w7 w.heap.size = some (.cells r.cells 77) := (hb7.block _ (ltb ((blk_alloc_ne w6 (.cells su.cells 51) _ (ltb kx)).trans kx))).trans ((blk_alloc_ne w6 (.cells su.cells 51) _ (ltb kx)).trans kx)
  have kyn : blkAt w7 (w.heap.size + 1) = some (.cells y_r.cells 77) := (hb7.block _ (ltb ((blk_alloc_ne w6 (.cells su.cells 51) _ (ltb ky)).trans ky))).trans ((blk_alloc_ne w6 (.cells su.cells 51) _ (ltb ky)).trans ky)
  have kzn : blkAt w7 w5.heap.size = some (.cells sx.cells 51) := (hb7.block _ (ltb ((blk_alloc_ne w6 (.cells su.cells 51) _ (ltb kz)).trans kz))).trans ((blk_alloc_ne w6 (.cells su.cells 51) _ (ltb kz)).trans kz)
  have kvn : blkAt w7 w6.heap.size = some (.cells su.cells 51) := (hb7.block _ (ltb (blk_alloc w6 (.cells su.cells 51)))).trans (blk_alloc w6 (.cells su.cells 51))
  have HB7 := Lib.hid (bUp (bUp (HB6.out) G6) hb7)
  have Vx := Lib.hid ((RvM.below (B := w6.heap.size) Vx.out G6 (Nat.le_refl _)).below hb7 (Nat.le_refl _))
  have Vu := Lib.hid ((RvM.below (B := w6.heap.size) Vu.out G6 (Nat.le_refl _)).below hb7 (Nat.le_refl _))
  clear kx
  have kx := kxn
  clear kxn
  clear yx
  have yx := ltb kx
  clear ky
  have ky := kyn
  clear kyn
  clear yy
  have yy := ltb ky
  clear kz
  have kz := kzn
  clear kzn
  clear yz
  have yz := ltb kz
  have kv := kvn
  clear kvn
  have yv := ltb kv
  clear hb7
  clear G6
  go_wp2_with fail
  refine wp_region_grow [3] [2] (by kernel_rfl) (by kernel_rfl) (by kernel_rfl) ?_
  apply Exists.intro
  iterate 2 (apply lh_o; kernel_rfl; kernel_rfl; kernel_rfl; (intro W hW; have hWc := Grow.cells hW; have hWk := bblk hW; go_simp; exact ⟨OneV.mk _, Grow.refl _⟩))
  apply lh_w (fun g : Value => g) (fun g w' => RoomW r g w') (.bool false) (fun g w w' h hg => h.grow hg) (fun i j h => h)
  kernel_rfl
  kernel_rfl
  kernel_rfl
  · intro W hW
    have hWc := Grow.cells hW
    go_simp
    exact (c_toRoom r W (RvM.below (B := w.heap.size) H.out (HB7.out.trans (Below.mono hW HB7.out.size)) (Nat.le_refl _)) M.out).mono fun e w' ⟨s, he, hb, r1, r2⟩ => ⟨_, he, ⟨s, rfl, r1, r2⟩, hb⟩
  exact anti
  intro g
  (apply lh_h; kernel_rfl; kernel_rfl; kernel_rfl; (intro W hW; obtain ⟨hG, s2, rfl, k1, k2⟩ := hW; obtain ⟨pp, rfl⟩ := Rv.of_strip (k2.trans Cx.out.symm); have hWc := Grow.cells hG; go_simp; exact gV (c_eqRoom sx pp W (RvM.below (B := w7.heap.size) Vx.out hG (Nat.le_refl _)) k1)))
  (apply lh_o; kernel_rfl; kernel_rfl; kernel_rfl; (intro W hW; have hWc := Grow.cells hW; go_simp; exact ⟨OneV.mk _, Grow.refl _⟩))
  refine lh_nil ?_
  intro w8 hW8
  simp only [Act.put, List.setIfInBounds_toArray, List.set_cons_succ, List.set_cons_zero]
  have hb8 : Below w7.heap.size w7 w8 := hW8.1
  clear hW8
  have kxn : blkAt w8 w.heap.size = some (.cells r.cells 77) := (hb8.block _ (ltb kx)).trans kx
  have kyn : blkAt w8 (w.heap.size + 1) = some (.cells y_r.cells 77) := (hb8.block _ (ltb ky)).trans ky
  have kzn : blkAt w8 w5.heap.size = some (.cells sx.cells 51) := (hb8.block _ (ltb kz)).trans kz
  have kvn : blkAt w8 w6.heap.size = some (.cells su.cells 51) := (hb8.block _ (ltb kv)).trans kv
  have HB8 := Lib.hid (bUp (HB7.out) hb8)
  have Vx := Lib.hid (Vx.out.below hb8 (Nat.le_refl _))
  have Vu := Lib.hid (Vu.out.below hb8 (Nat.le_refl _))
  clear kx
  have kx := kxn
  clear kxn
  clear yx
  have yx := ltb kx
  clear ky
  have ky := kyn
  clear kyn
  clear yy
  have yy := ltb ky
  clear kz
  have kz := kzn
  clear kzn
  clear yz
  have yz := ltb kz
  clear kv
  have kv := kvn
  clear kvn
  clear yv
  have yv := ltb kv
  clear hb8
  go_wp2_with fail
  refine wp_region_grow [3] [2] (by kernel_rfl) (by kernel_rfl) (by kernel_rfl) ?_
  apply Exists.intro
  iterate 2 (apply lh_o; kernel_rfl; kernel_rfl; kernel_rfl; (intro W hW; have hWc := Grow.cells hW; have hWk := bblk hW; go_simp; exact ⟨OneV.mk _, Grow.refl _⟩))
  apply lh_w (fun g : Value => g) (fun g w' => RoomW y_r g w') (.bool false) (fun g w w' h hg => h.grow hg) (fun i j h => h)
  kernel_rfl
  kernel_rfl
  kernel_rfl
  · intro W hW
    have hWc := Grow.cells hW
    go_simp
    exact (c_toRoom y_r W (RvM.below (B := w.heap.size) y_H.out (HB8.out.trans (Below.mono hW HB8.out.size)) (Nat.le_refl _)) y_M.out).mono fun e w' ⟨s, he, hb, r1, r2⟩ => ⟨_, he, ⟨s, rfl, r1, r2⟩, hb⟩
  exact anti
  intro g
  (apply lh_h; kernel_rfl; kernel_rfl; kernel_rfl; (intro W hW; obtain ⟨hG, s2, rfl, k1, k2⟩ := hW; obtain ⟨pp, rfl⟩ := Rv.of_strip (k2.trans Cu.out.symm); have hWc := Grow.cells hG; go_simp; exact gV (c_eqRoom su pp W (RvM.below (B := w8.heap.size) Vu.out hG (Nat.le_refl _)) k1)))
  (apply lh_o; kernel_rfl; kernel_rfl; kernel_rfl; (intro W hW; have hWc := Grow.cells hW; go_simp; exact ⟨OneV.mk _, Grow.refl _⟩))
  refine lh_nil ?_
  intro w9 hW9
  simp only [Act.put, List.setIfInBounds_toArray, List.set_cons_succ, List.set_cons_zero]
  have hb9 : Below w8.heap.size w8 w9 := hW9.1
  clear hW9
  have kxn : blkAt w9 w.heap.size = some (.cells r.cells 77) := (hb9.block _ (ltb kx)).trans kx
  have kyn : blkAt w9 (w.heap.size + 1) = some (.cells y_r.cells 77) := (hb9.block _ (ltb ky)).trans ky
  have kzn : blkAt w9 w5.heap.size = some (.cells sx.cells 51) := (hb9.block _ (ltb kz)).trans kz
  have kvn : blkAt w9 w6.heap.size = some (.cells su.cells 51) := (hb9.block _ (ltb kv)).trans kv
  have HB9 := Lib.hid (bUp (HB8.out) hb9)
  have Vx := Lib.hid (Vx.out.below hb9 (Nat.le_refl _))
  have Vu := Lib.hid (Vu.out.below hb9 (Nat.le_refl _))
  clear kx
  have kx := kxn
  clear kxn
  clear yx
  have yx := ltb kx
  clear ky
  have ky := kyn
  clear kyn
  clear yy
  have yy := ltb ky
  clear kz
  have kz := kzn
  clear kzn
  clear yz
  have yz := ltb kz
  clear kv
  have kv := kvn
  clear kvn
  clear yv
  have yv := ltb kv
  clear hb9
  have bE := HB9.out
  go_wp2
  go_ret
  exact ⟨rfl, by (repeat (first | (with_reducible refine Below.drewN ?_) | (with_reducible refine Below.drew ?_) | ((with_reducible refine Below.alloc ?_ ?_ _); rotate_left; (first | omega | (simp <;> omega))) | ((with_reducible refine Below.setCell ?_ ?_ _); rotate_left; (first | omega | (simp <;> omega))) | (with_reducible exact Below.refl _ _) | (with_reducible assumption)))⟩


end Go.Proofs.Ytfhegjjgfaeinaa
