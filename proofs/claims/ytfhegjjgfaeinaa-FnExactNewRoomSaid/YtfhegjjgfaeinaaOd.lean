
/-
New rooms: the law.
-/
import Derived.Test.YtfhegjjgfaeinaaOb
import Derived.Test.YtfhegjjgfaeinaaOc
namespace Go.Proofs.Ytfhegjjgfaeinaa
open Go Go.RowKit Fl
theorem Rv.sum_pos (r : Rv) : ¬ r.sum < 0 := by unfold Rv.sum; omega
theorem NR.eq {n0 n1 n2 n3 : Int} {ta ke we : Nat} {r s : Rv} {code : Int} {c2 : Int} (h : IsNR n0 n1 n2 n3 ta ke we r code) (h' : IsNR n0 n1 n2 n3 ta ke we s c2) (W : World) (k : RvM W r) (k' : RvM W s) : Calls Try.prog 21 #[.agg r.cells, .agg s.cells] W (RetV (.bool true) W) := by
  obtain ⟨_, p, f0, f1, f2, f3, x0, x1, x2, x3, rfl, ⟨A0, A1, A2, A3⟩, B0, B1, B2, B3⟩ := h.alike h'
  exact c_eqRoomA r p f0 f1 f2 f3 x0 x1 x2 x3 W k k' A0 A1 A2 A3 B0 B1 B2 B3
set_option maxRecDepth 100000 in
set_option maxHeartbeats 1600000 in
theorem k_NewRoom (n0 n1 n2 n3 : Int) (ta ke we : Nat) (w : World) (ht : ta < 4294967296) :
    Calls Try.prog 4 #[.agg #[.int .i64 n0, .int .i64 n1, .int .i64 n2, .int .i64 n3], .float .f32 ta, .float .f32 ke, .float .f32 we] w (RetV (.bool true) w) := by
  have HT := Lib.hid ht
  clear ht
  go_enter Try.func4, Try.ntmps4
  have G0 : Below w.heap.size w (w.alloc (.cells (.int .i64 n0 :: .int .i64 n1 :: .int .i64 n2 :: .int .i64 n3 :: [] : List Value).toArray 40)) := Below.alloc (Below.refl _ _) (Nat.le_refl _) _
  go_wp2_with fail
  refine (c_toInt64A4 n0 n1 n2 n3 _).mono ?_
  rintro e w1 ⟨rfl, hb1⟩
  have kxn : blkAt w1 w.heap.size = some (.cells (.int .i64 n0 :: .int .i64 n1 :: .int .i64 n2 :: .int .i64 n3 :: [] : List Value).toArray 40) := (hb1.block _ (ltb (blk_alloc w (.cells (.int .i64 n0 :: .int .i64 n1 :: .int .i64 n2 :: .int .i64 n3 :: [] : List Value).toArray 40)))).trans (blk_alloc w (.cells (.int .i64 n0 :: .int .i64 n1 :: .int .i64 n2 :: .int .i64 n3 :: [] : List Value).toArray 40))
  have HB1 := Lib.hid (bUp (G0) hb1)
  have kx := kxn
  clear kxn
  have yx := ltb kx
  clear hb1
  clear G0
  go_wp2_with fail
  refine (c_sNewRoom n0 n1 n2 n3 ta ke we _ HT.out).mono ?_
  rintro e w2 ⟨s, cs, rfl, hb2, os, is⟩
  have kxn : blkAt w2 w.heap.size = some (.cells (.int .i64 n0 :: .int .i64 n1 :: .int .i64 n2 :: .int .i64 n3 :: [] : List Value).toArray 40) := (hb2.block _ (ltb kx)).trans kx
  have HB2 := Lib.hid (bUp (HB1.out) hb2)
  clear kx
  have kx := kxn
  clear kxn
  clear yx
  have yx := ltb kx
  clear hb2
  have Vs := Lib.hid os.m
  have IS := Lib.hid is
  clear os is
  have z0 : w2.cell? ⟨w.heap.size, 0, none⟩ = some (.int .i64 n0) := blk_cell (show w2.heap[w.heap.size]? = _ from kx) rfl
  have z1 : w2.cell? ⟨w.heap.size, 1, none⟩ = some (.int .i64 n1) := blk_cell (show w2.heap[w.heap.size]? = _ from kx) rfl
  have z2 : w2.cell? ⟨w.heap.size, 2, none⟩ = some (.int .i64 n2) := blk_cell (show w2.heap[w.heap.size]? = _ from kx) rfl
  have z3 : w2.cell? ⟨w.heap.size, 3, none⟩ = some (.int .i64 n3) := blk_cell (show w2.heap[w.heap.size]? = _ from kx) rfl
  have G2 : Below w2.heap.size w2 (w2.alloc (.cells s.cells 51)) := Below.alloc (Below.refl _ _) (Nat.le_refl _) _
  go_wp2_with fail
  refine (c_toInt64A4 n0 n1 n2 n3 _).mono ?_
  rintro e w3 ⟨rfl, hb3⟩
  have kxn : blkAt w3 w.heap.size = some (.cells (.int .i64 n0 :: .int .i64 n1 :: .int .i64 n2 :: .int .i64 n3 :: [] : List Value).toArray 40) := (hb3.block _ (ltb ((blk_alloc_ne w2 (.cells s.cells 51) _ (ltb kx)).trans kx))).trans ((blk_alloc_ne w2 (.cells s.cells 51) _ (ltb kx)).trans kx)
  have ksn : blkAt w3 w2.heap.size = some (.cells s.cells 51) := (hb3.block _ (ltb (blk_alloc w2 (.cells s.cells 51)))).trans (blk_alloc w2 (.cells s.cells 51))
  have HB3 := Lib.hid (bUp (bUp (HB2.out) G2) hb3)
  have Vs := Lib.hid ((RvM.below (B := w2.heap.size) Vs.out G2 (Nat.le_refl _)).below hb3 (Nat.le_refl _))
  clear kx
  have kx := kxn
  clear kxn
  clear yx
  have yx := ltb kx
  have ks := ksn
  clear ksn
  have ys := ltb ks
  clear hb3
  clear G2
  clear z0 z1 z2 z3
  have o1 : w.heap.size < w3.heap.size := yx
  have o2 : w2.heap.size < w3.heap.size := ys
  have VS3 := Vs
  go_wp2_with fail
  refine (c_NewRoom n0 n1 n2 n3 ta ke we _ HT.out).mono ?_
  rintro e w4 ⟨g, cg, rfl, hb4, og, ig⟩
  have D := Lib.hid hb4
  have kxn : blkAt w4 w.heap.size = some (.cells (.int .i64 n0 :: .int .i64 n1 :: .int .i64 n2 :: .int .i64 n3 :: [] : List Value).toArray 40) := (hb4.block _ (ltb kx)).trans kx
  have ksn : blkAt w4 w2.heap.size = some (.cells s.cells 51) := (hb4.block _ (ltb ks)).trans ks
  have HB4 := Lib.hid (bUp (HB3.out) hb4)
  have Vs := Lib.hid (Vs.out.below hb4 (Nat.le_refl _))
  clear kx
  have kx := kxn
  clear kxn
  clear yx
  have yx := ltb kx
  clear ks
  have ks := ksn
  clear ksn
  clear ys
  have ys := ltb ks
  clear hb4
  have OG := Lib.hid og
  have Vg := Lib.hid og.m
  have IG := Lib.hid ig
  clear og ig
  obtain rfl : cs = cg := (IG.out.alike IS.out).1
  have TZ := Lib.hid IG.out.tn.1
  have SM := Lib.hid IG.out.tn.2
  have sp := g.sum_pos
  have G4 : Below w4.heap.size w4 (w4.alloc (.cells g.cells 51)) := Below.alloc (Below.refl _ _) (Nat.le_refl _) _
  go_wp2_with fail
  refine (NR.eq IG.out IS.out _ (RvM.below (B := w4.heap.size) Vg.out G4 (Nat.le_refl _)) (RvM.below (B := w4.heap.size) Vs.out G4 (Nat.le_refl _))).mono ?_
  rintro e w5 ⟨rfl, hb5⟩
  have E := Lib.hid (bUp G4 hb5)
  have kxn : blkAt w5 w.heap.size = some (.cells (.int .i64 n0 :: .int .i64 n1 :: .int .i64 n2 :: .int .i64 n3 :: [] : List Value).toArray 40) := (hb5.block _ (ltb ((blk_alloc_ne w4 (.cells g.cells 51) _ (ltb kx)).trans kx))).trans ((blk_alloc_ne w4 (.cells g.cells 51) _ (ltb kx)).trans kx)
  have ksn : blkAt w5 w2.heap.size = some (.cells s.cells 51) := (hb5.block _ (ltb ((blk_alloc_ne w4 (.cells g.cells 51) _ (ltb ks)).trans ks))).trans ((blk_alloc_ne w4 (.cells g.cells 51) _ (ltb ks)).trans ks)
  have kgn : blkAt w5 w4.heap.size = some (.cells g.cells 51) := (hb5.block _ (ltb (blk_alloc w4 (.cells g.cells 51)))).trans (blk_alloc w4 (.cells g.cells 51))
  have HB5 := Lib.hid (bUp (bUp (HB4.out) G4) hb5)
  have Vs := Lib.hid ((RvM.below (B := w4.heap.size) Vs.out G4 (Nat.le_refl _)).below hb5 (Nat.le_refl _))
  have Vg := Lib.hid ((RvM.below (B := w4.heap.size) Vg.out G4 (Nat.le_refl _)).below hb5 (Nat.le_refl _))
  clear kx
  have kx := kxn
  clear kxn
  clear yx
  have yx := ltb kx
  clear ks
  have ks := ksn
  clear ksn
  clear ys
  have ys := ltb ks
  have kg := kgn
  clear kgn
  have yg := ltb kg
  clear hb5
  clear G4
  have D5 := Lib.hid (D.out.trans (E.out.mono D.out.size))
  go_wp2_with fail
  refine (c_markRoom g w3.heap.size w4 _ OG.out E.out SM.out).mono ?_
  rintro e w6 ⟨rfl, G, wr, hG, vm⟩
  have z4 := D.out.size
  have kxn : blkAt w6 w.heap.size = some (.cells (.int .i64 n0 :: .int .i64 n1 :: .int .i64 n2 :: .int .i64 n3 :: [] : List Value).toArray 40) := (wr.block _ (ltb kx) (by intro hm; have := hG _ hm; omega)).trans kx
  have ksn : blkAt w6 w2.heap.size = some (.cells s.cells 51) := (wr.block _ (ltb ks) (by intro hm; have := hG _ hm; omega)).trans ks
  have kgn : blkAt w6 w4.heap.size = some (.cells g.cells 51) := (wr.block _ (ltb kg) (by intro hm; have := hG _ hm; omega)).trans kg
  have HB6 := Lib.hid (HB5.out.trans (wr.below (B := w.heap.size) HB5.out.size (fun x hx => by have := hG x hx; omega)))
  have D6 := Lib.hid (D5.out.trans (wr.below (B := w3.heap.size) D5.out.size (fun x hx => (hG x hx).1)))
  clear Vs Vg
  have Vs := Lib.hid (VS3.out.below D6.out (Nat.le_refl _))
  have Vm := Lib.hid vm
  clear vm VS3 wr hG D5 D6
  clear kx
  have kx := kxn
  clear kxn yx
  have yx := ltb kx
  clear ks
  have ks := ksn
  clear ksn ys
  have ys := ltb ks
  clear kg
  have kg := kgn
  clear kgn yg
  have yg := ltb kg
  go_wp2_with fail
  refine (c_heldRoom g _ Vm.out TZ.out SM.out).mono ?_
  rintro e w7 ⟨rfl, hb7⟩
  have kxn : blkAt w7 w.heap.size = some (.cells (.int .i64 n0 :: .int .i64 n1 :: .int .i64 n2 :: .int .i64 n3 :: [] : List Value).toArray 40) := (hb7.block _ (ltb kx)).trans kx
  have ksn : blkAt w7 w2.heap.size = some (.cells s.cells 51) := (hb7.block _ (ltb ks)).trans ks
  have kgn : blkAt w7 w4.heap.size = some (.cells g.cells 51) := (hb7.block _ (ltb kg)).trans kg
  have HB7 := Lib.hid (bUp (HB6.out) hb7)
  have Vs := Lib.hid (Vs.out.below hb7 (Nat.le_refl _))
  have Vm := Lib.hid (Vm.out.below hb7 (Nat.le_refl _))
  clear kx
  have kx := kxn
  clear kxn
  clear yx
  have yx := ltb kx
  clear ks
  have ks := ksn
  clear ksn
  clear ys
  have ys := ltb ks
  clear kg
  have kg := kgn
  clear kgn
  clear yg
  have yg := ltb kg
  clear hb7
  have z0 : w7.cell? ⟨w.heap.size, 0, none⟩ = some (.int .i64 n0) := blk_cell (show w7.heap[w.heap.size]? = _ from kx) rfl
  have z1 : w7.cell? ⟨w.heap.size, 1, none⟩ = some (.int .i64 n1) := blk_cell (show w7.heap[w.heap.size]? = _ from kx) rfl
  have z2 : w7.cell? ⟨w.heap.size, 2, none⟩ = some (.int .i64 n2) := blk_cell (show w7.heap[w.heap.size]? = _ from kx) rfl
  have z3 : w7.cell? ⟨w.heap.size, 3, none⟩ = some (.int .i64 n3) := blk_cell (show w7.heap[w.heap.size]? = _ from kx) rfl
  go_wp2_with fail
  refine (c_toInt64A4 n0 n1 n2 n3 _).mono ?_
  rintro e w8 ⟨rfl, hb8⟩
  have kxn : blkAt w8 w.heap.size = some (.cells (.int .i64 n0 :: .int .i64 n1 :: .int .i64 n2 :: .int .i64 n3 :: [] : List Value).toArray 40) := (hb8.block _ (ltb kx)).trans kx
  have ksn : blkAt w8 w2.heap.size = some (.cells s.cells 51) := (hb8.block _ (ltb ks)).trans ks
  have kgn : blkAt w8 w4.heap.size = some (.cells g.cells 51) := (hb8.block _ (ltb kg)).trans kg
  have HB8 := Lib.hid (bUp (HB7.out) hb8)
  have Vs := Lib.hid (Vs.out.below hb8 (Nat.le_refl _))
  have Vm := Lib.hid (Vm.out.below hb8 (Nat.le_refl _))
  clear kx
  have kx := kxn
  clear kxn
  clear yx
  have yx := ltb kx
  clear ks
  have ks := ksn
  clear ksn
  clear ys
  have ys := ltb ks
  clear kg
  have kg := kgn
  clear kgn
  clear yg
  have yg := ltb kg
  clear hb8
  clear z0 z1 z2 z3
  go_wp2_with fail
  refine (c_NewRoom n0 n1 n2 n3 ta ke we _ HT.out).mono ?_
  rintro e w9 ⟨h, ch, rfl, hb9, oh, ih⟩
  have kxn : blkAt w9 w.heap.size = some (.cells (.int .i64 n0 :: .int .i64 n1 :: .int .i64 n2 :: .int .i64 n3 :: [] : List Value).toArray 40) := (hb9.block _ (ltb kx)).trans kx
  have ksn : blkAt w9 w2.heap.size = some (.cells s.cells 51) := (hb9.block _ (ltb ks)).trans ks
  have kgn : blkAt w9 w4.heap.size = some (.cells g.cells 51) := (hb9.block _ (ltb kg)).trans kg
  have HB9 := Lib.hid (bUp (HB8.out) hb9)
  have Vs := Lib.hid (Vs.out.below hb9 (Nat.le_refl _))
  have Vm := Lib.hid (Vm.out.below hb9 (Nat.le_refl _))
  clear kx
  have kx := kxn
  clear kxn
  clear yx
  have yx := ltb kx
  clear ks
  have ks := ksn
  clear ksn
  clear ys
  have ys := ltb ks
  clear kg
  have kg := kgn
  clear kgn
  clear yg
  have yg := ltb kg
  clear hb9
  have Vh := Lib.hid oh.m
  have IH := Lib.hid ih
  clear oh ih
  obtain rfl : cs = ch := (IH.out.alike IS.out).1
  have G9 : Below w9.heap.size w9 (w9.alloc (.cells h.cells 51)) := Below.alloc (Below.refl _ _) (Nat.le_refl _) _
  go_wp2_with fail
  refine (NR.eq IH.out IS.out _ (RvM.below (B := w9.heap.size) Vh.out G9 (Nat.le_refl _)) (RvM.below (B := w9.heap.size) Vs.out G9 (Nat.le_refl _))).mono ?_
  rintro e w10 ⟨rfl, hb10⟩
  have kxn : blkAt w10 w.heap.size = some (.cells (.int .i64 n0 :: .int .i64 n1 :: .int .i64 n2 :: .int .i64 n3 :: [] : List Value).toArray 40) := (hb10.block _ (ltb ((blk_alloc_ne w9 (.cells h.cells 51) _ (ltb kx)).trans kx))).trans ((blk_alloc_ne w9 (.cells h.cells 51) _ (ltb kx)).trans kx)
  have ksn : blkAt w10 w2.heap.size = some (.cells s.cells 51) := (hb10.block _ (ltb ((blk_alloc_ne w9 (.cells h.cells 51) _ (ltb ks)).trans ks))).trans ((blk_alloc_ne w9 (.cells h.cells 51) _ (ltb ks)).trans ks)
  have kgn : blkAt w10 w4.heap.size = some (.cells g.cells 51) := (hb10.block _ (ltb ((blk_alloc_ne w9 (.cells h.cells 51) _ (ltb kg)).trans kg))).trans ((blk_alloc_ne w9 (.cells h.cells 51) _ (ltb kg)).trans kg)
  have khn : blkAt w10 w9.heap.size = some (.cells h.cells 51) := (hb10.block _ (ltb (blk_alloc w9 (.cells h.cells 51)))).trans (blk_alloc w9 (.cells h.cells 51))
  have HB10 := Lib.hid (bUp (bUp (HB9.out) G9) hb10)
  have Vs := Lib.hid ((RvM.below (B := w9.heap.size) Vs.out G9 (Nat.le_refl _)).below hb10 (Nat.le_refl _))
  have Vm := Lib.hid ((RvM.below (B := w9.heap.size) Vm.out G9 (Nat.le_refl _)).below hb10 (Nat.le_refl _))
  have Vh := Lib.hid ((RvM.below (B := w9.heap.size) Vh.out G9 (Nat.le_refl _)).below hb10 (Nat.le_refl _))
  clear kx
  have kx := kxn
  clear kxn
  clear yx
  have yx := ltb kx
  clear ks
  have ks := ksn
  clear ksn
  clear ys
  have ys := ltb ks
  clear kg
  have kg := kgn
  clear kgn
  clear yg
  have yg := ltb kg
  have kh := khn
  clear khn
  have yh := ltb kh
  clear hb10
  clear G9
  go_wp2_with fail
  refine (c_heldRoom g _ Vm.out TZ.out SM.out).mono ?_
  rintro e w11 ⟨rfl, hb11⟩
  have kxn : blkAt w11 w.heap.size = some (.cells (.int .i64 n0 :: .int .i64 n1 :: .int .i64 n2 :: .int .i64 n3 :: [] : List Value).toArray 40) := (hb11.block _ (ltb kx)).trans kx
  have ksn : blkAt w11 w2.heap.size = some (.cells s.cells 51) := (hb11.block _ (ltb ks)).trans ks
  have kgn : blkAt w11 w4.heap.size = some (.cells g.cells 51) := (hb11.block _ (ltb kg)).trans kg
  have khn : blkAt w11 w9.heap.size = some (.cells h.cells 51) := (hb11.block _ (ltb kh)).trans kh
  have HB11 := Lib.hid (bUp (HB10.out) hb11)
  have Vs := Lib.hid (Vs.out.below hb11 (Nat.le_refl _))
  have Vm := Lib.hid (Vm.out.below hb11 (Nat.le_refl _))
  have Vh := Lib.hid (Vh.out.below hb11 (Nat.le_refl _))
  clear kx
  have kx := kxn
  clear kxn
  clear yx
  have yx := ltb kx
  clear ks
  have ks := ksn
  clear ksn
  clear ys
  have ys := ltb ks
  clear kg
  have kg := kgn
  clear kgn
  clear yg
  have yg := ltb kg
  clear kh
  have kh := khn
  clear khn
  clear yh
  have yh := ltb kh
  clear hb11
  have bE := HB11.out
  go_wp2
  go_ret
  exact ⟨rfl, by (repeat (first | (with_reducible refine Below.drewN ?_) | (with_reducible refine Below.drew ?_) | ((with_reducible refine Below.alloc ?_ ?_ _); rotate_left; (first | omega | (simp <;> omega))) | ((with_reducible refine Below.setCell ?_ ?_ _); rotate_left; (first | omega | (simp <;> omega))) | (with_reducible exact Below.refl _ _) | (with_reducible assumption)))⟩
theorem r_NewRoom (n0 n1 n2 n3 : Int) (ta : Nat) (ht : ta < 4294967296) (ke we : Nat) (w : World) :
    Calls Try.prog 4 #[.agg #[.int .i64 n0, .int .i64 n1, .int .i64 n2, .int .i64 n3], .float .f32 ta, .float .f32 ke, .float .f32 we] w (RetV (.bool true) w) := k_NewRoom n0 n1 n2 n3 ta ke we w ht
end Go.Proofs.Ytfhegjjgfaeinaa
