
/-
The law of the test of rooms, joined.
-/
import Derived.Test.YtfhegjjgfaeinaaYj
namespace Go.Proofs.Ytfhegjjgfaeinaa
open Go Go.RowKit Fl
set_option maxRecDepth 100000 in
set_option maxHeartbeats 1600000 in
theorem l_ValidRoom (r : Rv) (v : Bool) (w : World) (h : RvM w r)
    (HS : ∀ W (s : Rv), RvM W s → s.strip = r.strip → Calls Try.prog 37 #[.agg s.cells] W (RetV (.bool v) W))
    (HI : ∀ W (s : Rv), RvM W s → s.strip = r.strip → Calls Try.prog 38 #[.agg s.cells] W (RetV (.bool v) W)) :
    Calls Try.prog 10 #[.agg r.cells] w (RetV (.bool true) w) := by
  have HS := Lib.hid HS
  have HI := Lib.hid HI
  have H := Lib.hid h
  clear h
  by_cases ht : (r.e.n : Int) + (r.tn : Int) + ((r.c0.n : Int) + (r.c1.n : Int)) + ((r.l0.n : Int) + (r.l1.n : Int) + (r.l2.n : Int) + (r.l3.n : Int)) ≤ 1048576
  rotate_left
  · go_enter Try.func10, Try.ntmps10
    have G0 : Below w.heap.size w (w.alloc (.cells r.cells 77)) := Below.alloc (Below.refl _ _) (Nat.le_refl _) _
    go_wp2_with fail
    refine (c_szRoom_no r _ H.out.c (by omega)).mono ?_
    rintro e w1 ⟨rfl, hb1⟩
    have kxn : blkAt w1 w.heap.size = some (.cells r.cells 77) := (hb1.block _ (ltb (blk_alloc w (.cells r.cells 77)))).trans (blk_alloc w (.cells r.cells 77))
    have HB1 := Lib.hid (bUp (G0) hb1)
    have kx := kxn
    clear kxn
    have yx := ltb kx
    clear hb1
    clear G0
    have bE := HB1.out
    go_wp2
    go_ret
    exact ⟨rfl, by (repeat (first | (with_reducible refine Below.drewN ?_) | (with_reducible refine Below.drew ?_) | ((with_reducible refine Below.alloc ?_ ?_ _); rotate_left; (first | omega | (simp <;> omega))) | ((with_reducible refine Below.setCell ?_ ?_ _); rotate_left; (first | omega | (simp <;> omega))) | (with_reducible exact Below.refl _ _) | (with_reducible assumption)))⟩
  have M : Hid (RvB r) := ⟨by omega, by omega, by omega, by omega, by omega, by omega, by omega, by omega⟩
  have hl : ¬ (1048576 - r.e.n - r.tn - r.c0.n - r.c1.n - r.l0.n - r.l1.n - r.l2.n - r.l3.n : Int) < 0 := by omega
  go_enter Try.func10, Try.ntmps10
  have G0 : Below w.heap.size w (w.alloc (.cells r.cells 77)) := Below.alloc (Below.refl _ _) (Nat.le_refl _) _
  go_wp2_with fail
  refine (c_szRoom_ok r _ H.out.c (by omega)).mono ?_
  rintro e w1 ⟨rfl, hb1⟩
  have kxn : blkAt w1 w.heap.size = some (.cells r.cells 77) := (hb1.block _ (ltb (blk_alloc w (.cells r.cells 77)))).trans (blk_alloc w (.cells r.cells 77))
  have HB1 := Lib.hid (bUp (G0) hb1)
  have kx := kxn
  clear kxn
  have yx := ltb kx
  clear hb1
  clear G0
  go_wp2_with fail
  refine (c_toRoom r _ (RvM.below (B := w.heap.size) H.out (HB1.out) (Nat.le_refl _)) M.out).mono ?_
  rintro e w2 ⟨ss, rfl, hb2, vs, cs⟩
  have kxn : blkAt w2 w.heap.size = some (.cells r.cells 77) := (hb2.block _ (ltb kx)).trans kx
  have HB2 := Lib.hid (bUp (HB1.out) hb2)
  clear kx
  have kx := kxn
  clear kxn
  clear yx
  have yx := ltb kx
  clear hb2
  have Vs := Lib.hid vs
  have Cs := Lib.hid cs
  clear vs cs
  go_wp2_with fail
  refine (HS.out _ _ Vs.out Cs.out).mono ?_
  rintro e w3 ⟨rfl, hb3⟩
  have kxn : blkAt w3 w.heap.size = some (.cells r.cells 77) := (hb3.block _ (ltb kx)).trans kx
  have HB3 := Lib.hid (bUp (HB2.out) hb3)
  have Vs := Lib.hid (Vs.out.below hb3 (Nat.le_refl _))
  clear kx
  have kx := kxn
  clear kxn
  clear yx
  have yx := ltb kx
  clear hb3
  clear Vs Cs
  go_wp2_with fail
  refine (c_toRoom r _ (RvM.below (B := w.heap.size) H.out (HB3.out) (Nat.le_refl _)) M.out).mono ?_
  rintro e w4 ⟨sx, rfl, hb4, vx, cx⟩
  have kxn : blkAt w4 w.heap.size = some (.cells r.cells 77) := (hb4.block _ (ltb kx)).trans kx
  have HB4 := Lib.hid (bUp (HB3.out) hb4)
  clear kx
  have kx := kxn
  clear kxn
  clear yx
  have yx := ltb kx
  clear hb4
  have Vx := Lib.hid vx
  have Cx := Lib.hid cx
  clear vx cx
  have G4 : Below w4.heap.size w4 (w4.alloc (.cells sx.cells 51)) := Below.alloc (Below.refl _ _) (Nat.le_refl _) _
  go_wp2_with fail
  refine (HI.out _ _ (RvM.below (B := w4.heap.size) Vx.out G4 (Nat.le_refl _)) Cx.out).mono ?_
  rintro e w5 ⟨rfl, hb5⟩
  have kxn : blkAt w5 w.heap.size = some (.cells r.cells 77) := (hb5.block _ (ltb ((blk_alloc_ne w4 (.cells sx.cells 51) _ (ltb kx)).trans kx))).trans ((blk_alloc_ne w4 (.cells sx.cells 51) _ (ltb kx)).trans kx)
  have kzn : blkAt w5 w4.heap.size = some (.cells sx.cells 51) := (hb5.block _ (ltb (blk_alloc w4 (.cells sx.cells 51)))).trans (blk_alloc w4 (.cells sx.cells 51))
  have HB5 := Lib.hid (bUp (bUp (HB4.out) G4) hb5)
  have Vx := Lib.hid ((RvM.below (B := w4.heap.size) Vx.out G4 (Nat.le_refl _)).below hb5 (Nat.le_refl _))
  clear kx
  have kx := kxn
  clear kxn
  clear yx
  have yx := ltb kx
  have kz := kzn
  clear kzn
  have yz := ltb kz
  clear hb5
  clear G4
  go_wp2_with fail
  refine wp_region_grow [3] [2] (by kernel_rfl) (by kernel_rfl) (by kernel_rfl) ?_
  apply Exists.intro
  iterate 2 (apply lh_o; kernel_rfl; kernel_rfl; kernel_rfl; (intro W hW; have hWc := Grow.cells hW; have hWk := bblk hW; go_simp; exact ⟨OneV.mk _, Grow.refl _⟩))
  apply lh_w (fun g : Value => g) (fun g w' => RoomW r g w') (.bool false) (fun g w w' h hg => h.grow hg) (fun i j h => h)
  kernel_rfl
  kernel_rfl
  kernel_rfl
  · intro W hW
    have hWc := Grow.cells hW
    go_simp
    exact (c_toRoom r W (RvM.below (B := w.heap.size) H.out (HB5.out.trans (Below.mono hW HB5.out.size)) (Nat.le_refl _)) M.out).mono fun e w' ⟨s, he, hb, r1, r2⟩ => ⟨_, he, ⟨s, rfl, r1, r2⟩, hb⟩
  exact anti
  intro g
  (apply lh_h; kernel_rfl; kernel_rfl; kernel_rfl; (intro W hW; obtain ⟨hG, s2, rfl, k1, k2⟩ := hW; obtain ⟨pp, rfl⟩ := Rv.of_strip (k2.trans Cx.out.symm); have hWc := Grow.cells hG; go_simp; exact gV (c_eqRoom sx pp W (RvM.below (B := w5.heap.size) Vx.out hG (Nat.le_refl _)) k1)))
  (apply lh_o; kernel_rfl; kernel_rfl; kernel_rfl; (intro W hW; have hWc := Grow.cells hW; go_simp; exact ⟨OneV.mk _, Grow.refl _⟩))
  refine lh_nil ?_
  intro w6 hW6
  simp only [Act.put, List.setIfInBounds_toArray, List.set_cons_succ, List.set_cons_zero]
  have hb6 : Below w5.heap.size w5 w6 := hW6.1
  clear hW6
  have kxn : blkAt w6 w.heap.size = some (.cells r.cells 77) := (hb6.block _ (ltb kx)).trans kx
  have kzn : blkAt w6 w4.heap.size = some (.cells sx.cells 51) := (hb6.block _ (ltb kz)).trans kz
  have HB6 := Lib.hid (bUp (HB5.out) hb6)
  have Vx := Lib.hid (Vx.out.below hb6 (Nat.le_refl _))
  clear kx
  have kx := kxn
  clear kxn
  clear yx
  have yx := ltb kx
  clear kz
  have kz := kzn
  clear kzn
  clear yz
  have yz := ltb kz
  clear hb6
  have bE := HB6.out
  go_wp2
  go_ret
  exact ⟨rfl, by (repeat (first | (with_reducible refine Below.drewN ?_) | (with_reducible refine Below.drew ?_) | ((with_reducible refine Below.alloc ?_ ?_ _); rotate_left; (first | omega | (simp <;> omega))) | ((with_reducible refine Below.setCell ?_ ?_ _); rotate_left; (first | omega | (simp <;> omega))) | (with_reducible exact Below.refl _ _) | (with_reducible assumption)))⟩


theorem roomB_same {r s : Rv} (h : s.strip = r.strip) : roomB s = roomB r := by rw [← roomB_strip s, h, roomB_strip r]
theorem k_ValidRoom (r : Rv) (w : World) (h : RvM w r) : Calls Try.prog 10 #[.agg r.cells] w (RetV (.bool true) w) :=
  l_ValidRoom r (roomB r) w h (fun W s hs e => roomB_same e ▸ c_sValidRoom s W hs) (fun W s hs e => roomB_same e ▸ c_ValidRoom s W hs)
end Go.Proofs.Ytfhegjjgfaeinaa
