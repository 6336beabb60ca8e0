
/-
The program's test of rooms.
-/
import Derived.Test.YtfhegjjgfaeinaaYi
namespace Go.Proofs.Ytfhegjjgfaeinaa
open Go Go.RowKit Fl
theorem fin6 (a b c d e f : Nat) : finTo [a, b, c, d, e, f] 6 = (finTo [a, b, c, d] 4 && finTo [e, f] 2) := by
  simp [finTo, nth, Bool.and_assoc]
theorem room_no {r : Rv} (h : rokB r.e = false ∨ combB r.c0 r.g0 = false ∨ combB r.c1 r.g1 = false ∨ rgsTo [r.l0, r.l1, r.l2, r.l3] 4 = false ∨ (6 : Int) < r.tn ∨ dTo r 4 = false ∨ finTo [r.h0, r.h1, r.h2, r.h3] 4 = false ∨ finTo [r.dry, r.wet] 2 = false) : roomB r = false := by
  unfold roomB
  rw [fin6]
  rcases h with h | h | h | h | h | h | h | h
  · rw [h]; rfl
  · rw [h]; simp
  · rw [h]; simp
  · rw [h]; simp
  · rw [decide_eq_false (show ¬ ((r.tn : Int) ≤ 6) by omega)]; simp
  · rw [h]; simp
  · rw [h]; simp
  · rw [h]; simp
theorem FS.arr4 {w : World} {b o : Nat} {x0 x1 x2 x3 : Nat} (hb : b < w.heap.size) (h0 : w.cell? ⟨b, o, none⟩ = some (.float .f32 x0)) (h1 : w.cell? ⟨b, o + 1, none⟩ = some (.float .f32 x1)) (h2 : w.cell? ⟨b, o + 2, none⟩ = some (.float .f32 x2)) (h3 : w.cell? ⟨b, o + 3, none⟩ = some (.float .f32 x3)) : FS w (some ⟨b, o, none⟩) 4 4 [x0, x1, x2, x3] :=
  ⟨rfl, Nat.le_refl _, by omega, fun _ => ⟨b, o, rfl, hb, fun i hi => match i, hi with
    | 0, _ => h0
    | 1, _ => h1
    | 2, _ => h2
    | 3, _ => h3
    | k + 4, h => absurd h (by omega)⟩⟩
set_option maxRecDepth 100000 in
set_option maxHeartbeats 2000000 in
theorem c_ValidRoom (r : Rv) (w : World) (h : RvM w r) : Calls Try.prog 38 #[.agg r.cells] w (RetV (.bool (roomB r)) w) := by
  have N := Lib.hid h
  have mt : r.tn ≤ 9223372036854775807 := Nat.le_trans h.t.cap h.t.big
  have KE : Hid (∀ W, Below w.heap.size w W → Calls Try.prog 52 #[.agg #[.slice r.e.a r.e.n r.e.c, .int .i64 r.e.i]] W (RetV (.bool (rokB r.e)) W)) := fun W hW => c_isRing _ _ _ _ _ W (h.q0.below hW (Nat.le_refl _))
  have KR0 : Hid (∀ W, Below w.heap.size w W → Calls Try.prog 52 #[.agg #[.slice r.l0.a r.l0.n r.l0.c, .int .i64 r.l0.i]] W (RetV (.bool (rokB r.l0)) W)) := fun W hW => c_isRing _ _ _ _ _ W (h.q3.below hW (Nat.le_refl _))
  have KR1 : Hid (∀ W, Below w.heap.size w W → Calls Try.prog 52 #[.agg #[.slice r.l1.a r.l1.n r.l1.c, .int .i64 r.l1.i]] W (RetV (.bool (rokB r.l1)) W)) := fun W hW => c_isRing _ _ _ _ _ W (h.q4.below hW (Nat.le_refl _))
  have KR2 : Hid (∀ W, Below w.heap.size w W → Calls Try.prog 52 #[.agg #[.slice r.l2.a r.l2.n r.l2.c, .int .i64 r.l2.i]] W (RetV (.bool (rokB r.l2)) W)) := fun W hW => c_isRing _ _ _ _ _ W (h.q5.below hW (Nat.le_refl _))
  have KR3 : Hid (∀ W, Below w.heap.size w W → Calls Try.prog 52 #[.agg #[.slice r.l3.a r.l3.n r.l3.c, .int .i64 r.l3.i]] W (RetV (.bool (rokB r.l3)) W)) := fun W hW => c_isRing _ _ _ _ _ W (h.q6.below hW (Nat.le_refl _))
  have KD0 : Hid (∀ W, Calls Try.prog 50 #[.agg #[.int .i64 r.d0.k, .float .f32 r.d0.f0, .float .f32 r.d0.f1, .float .f32 r.d0.f2, .float .f32 r.d0.f3, .float .f32 r.d0.f4], .int .i64 1] W (RetV (.bool (dkB r.d0)) W)) := fun W => c_isFilter _ _ _ _ _ _ _ W
  have KD1 : Hid (∀ W, Calls Try.prog 50 #[.agg #[.int .i64 r.d1.k, .float .f32 r.d1.f0, .float .f32 r.d1.f1, .float .f32 r.d1.f2, .float .f32 r.d1.f3, .float .f32 r.d1.f4], .int .i64 1] W (RetV (.bool (dkB r.d1)) W)) := fun W => c_isFilter _ _ _ _ _ _ _ W
  have KD2 : Hid (∀ W, Calls Try.prog 50 #[.agg #[.int .i64 r.d2.k, .float .f32 r.d2.f0, .float .f32 r.d2.f1, .float .f32 r.d2.f2, .float .f32 r.d2.f3, .float .f32 r.d2.f4], .int .i64 1] W (RetV (.bool (dkB r.d2)) W)) := fun W => c_isFilter _ _ _ _ _ _ _ W
  have KD3 : Hid (∀ W, Calls Try.prog 50 #[.agg #[.int .i64 r.d3.k, .float .f32 r.d3.f0, .float .f32 r.d3.f1, .float .f32 r.d3.f2, .float .f32 r.d3.f3, .float .f32 r.d3.f4], .int .i64 1] W (RetV (.bool (dkB r.d3)) W)) := fun W => c_isFilter _ _ _ _ _ _ _ W
  have KC0 : Hid (∀ W, Below w.heap.size w W → Calls Try.prog 111 #[.agg #[.slice r.c0.a r.c0.n r.c0.c, .int .i64 r.c0.i, .float .f32 r.g0]] W (RetV (.bool (combB r.c0 r.g0)) W)) := fun W hW => c_ValidComb _ _ _ _ _ _ W (h.q1.below hW (Nat.le_refl _))
  have KC1 : Hid (∀ W, Below w.heap.size w W → Calls Try.prog 111 #[.agg #[.slice r.c1.a r.c1.n r.c1.c, .int .i64 r.c1.i, .float .f32 r.g1]] W (RetV (.bool (combB r.c1 r.g1)) W)) := fun W hW => c_ValidComb _ _ _ _ _ _ W (h.q2.below hW (Nat.le_refl _))
  have KG : Hid (∀ W b, FS W (some ⟨b, 41, none⟩) 4 4 [r.h0, r.h1, r.h2, r.h3] → Calls Try.prog 51 #[.slice (some ⟨b, 41, none⟩) 4 4] W (RetB (finTo [r.h0, r.h1, r.h2, r.h3] 4) W)) := fun W b hf => c_areFinite _ _ _ _ W hf
  have KW : Hid (∀ W g, FS W (some ⟨g, 0, none⟩) 2 2 [r.dry, r.wet] → Calls Try.prog 51 #[.slice (some ⟨g, 0, none⟩) 2 2] W (RetB (finTo [r.dry, r.wet] 2) W)) := fun W g hf => c_areFinite _ _ _ _ W hf
  clear h
  go_enter Try.func38, Try.ntmps38
  go_upto_region 1 with fail
  refine wp_named ?_
  intro w0 hW0
  have kb : w0.heap[w.heap.size]? = some (.cells r.cells 51) := by rw [hW0]; exact (MapKept.heap_alloc w _).1
  have HB : Hid (Below w.heap.size w w0) := by show Below _ _ _; rw [hW0]; (repeat (first | (with_reducible refine Below.drewN ?_) | (with_reducible refine Below.drew ?_) | ((with_reducible refine Below.alloc ?_ ?_ _); rotate_left; (first | omega | (simp <;> omega))) | ((with_reducible refine Below.setCell ?_ ?_ _); rotate_left; (first | omega | (simp <;> omega))) | (with_reducible exact Below.refl _ _) | (with_reducible assumption)))
  clear hW0
  have a0 : w0.cell? ⟨w.heap.size, 0, none⟩ = some (.slice r.e.a r.e.n r.e.c) := blk_cell kb rfl
  have a1 : w0.cell? ⟨w.heap.size, 1, none⟩ = some (.int .i64 r.e.i) := blk_cell kb rfl
  have a2 : w0.cell? ⟨w.heap.size, 2, none⟩ = some (.slice r.ta r.tn r.tc) := blk_cell kb rfl
  cases f1 : rokB r.e
  · rw [f1] at KE
    have HU := Lib.hid (room_no (r := r) (.inl (f1)))
    go_wp2_with fail
    refine (KE.out _ HB.out).mono ?_
    rintro e w1 ⟨rfl, hb⟩
    have kb1 := (hb.block _ (Array.getElem?_eq_some_iff.1 kb).1).trans kb
    have HB1 := Lib.hid (HB.out.trans (hb.mono HB.out.size))
    clear kb HB hb
    have kb := kb1
    have HB := HB1
    clear kb1 HB1
    go_wp2
    go_ret
    have bE := HB.out
    have bz := bE.size
    exact ⟨by rw [HU.out]; rfl, by (repeat (first | (with_reducible refine Below.drewN ?_) | (with_reducible refine Below.drew ?_) | ((with_reducible refine Below.alloc ?_ ?_ _); rotate_left; (first | omega | (simp <;> omega))) | ((with_reducible refine Below.setCell ?_ ?_ _); rotate_left; (first | omega | (simp <;> omega))) | (with_reducible exact Below.refl _ _) | (with_reducible assumption)))⟩
  rw [f1] at KE
  go_wp2_with fail
  refine (KE.out _ HB.out).mono ?_
  rintro e w1 ⟨rfl, hb⟩
  have kb1 := (hb.block _ (Array.getElem?_eq_some_iff.1 kb).1).trans kb
  have HB1 := Lib.hid (HB.out.trans (hb.mono HB.out.size))
  clear kb HB hb
  have kb := kb1
  have HB := HB1
  clear kb1 HB1
  clear a0 a1 a2
  have a2 : w1.cell? ⟨w.heap.size, 2, none⟩ = some (.slice r.ta r.tn r.tc) := blk_cell kb rfl
  by_cases f5 : (6 : Int) < r.tn
  · have HU := Lib.hid (room_no (r := r) (.inr (.inr (.inr (.inr (.inl (f5)))))))
    go_wp2
    go_ret
    have bE := HB.out
    have bz := bE.size
    exact ⟨by rw [HU.out]; rfl, by (repeat (first | (with_reducible refine Below.drewN ?_) | (with_reducible refine Below.drew ?_) | ((with_reducible refine Below.alloc ?_ ?_ _); rotate_left; (first | omega | (simp <;> omega))) | ((with_reducible refine Below.setCell ?_ ?_ _); rotate_left; (first | omega | (simp <;> omega))) | (with_reducible exact Below.refl _ _) | (with_reducible assumption)))⟩
  have a41 : w1.cell? ⟨w.heap.size, 41, none⟩ = some (.float .f32 r.h0) := blk_cell kb rfl
  have a42 : w1.cell? ⟨w.heap.size, 42, none⟩ = some (.float .f32 r.h1) := blk_cell kb rfl
  have a43 : w1.cell? ⟨w.heap.size, 43, none⟩ = some (.float .f32 r.h2) := blk_cell kb rfl
  have a44 : w1.cell? ⟨w.heap.size, 44, none⟩ = some (.float .f32 r.h3) := blk_cell kb rfl
  cases f7 : finTo [r.h0, r.h1, r.h2, r.h3] 4
  · rw [f7] at KG
    have HU := Lib.hid (room_no (r := r) (.inr (.inr (.inr (.inr (.inr (.inr (.inl (f7)))))))))
    go_wp2_with fail
    refine (KG.out _ _ (FS.arr4 (Array.getElem?_eq_some_iff.1 kb).1 (blk_cell kb rfl) (blk_cell kb rfl) (blk_cell kb rfl) (blk_cell kb rfl))).mono ?_
    rintro e w' ⟨rfl, dg, rfl⟩
    go_wp2
    go_ret
    have bE := HB.out
    have bz := bE.size
    exact ⟨by rw [HU.out]; rfl, by (repeat (first | (with_reducible refine Below.drewN ?_) | (with_reducible refine Below.drew ?_) | ((with_reducible refine Below.alloc ?_ ?_ _); rotate_left; (first | omega | (simp <;> omega))) | ((with_reducible refine Below.setCell ?_ ?_ _); rotate_left; (first | omega | (simp <;> omega))) | (with_reducible exact Below.refl _ _) | (with_reducible assumption)))⟩
  rw [f7] at KG
  go_wp2_with fail
  refine (KG.out _ _ (FS.arr4 (Array.getElem?_eq_some_iff.1 kb).1 (blk_cell kb rfl) (blk_cell kb rfl) (blk_cell kb rfl) (blk_cell kb rfl))).mono ?_
  rintro e w' ⟨rfl, dg, rfl⟩
  have a45 : w1.cell? ⟨w.heap.size, 45, none⟩ = some (.float .f32 r.dry) := blk_cell kb rfl
  have a46 : w1.cell? ⟨w.heap.size, 46, none⟩ = some (.float .f32 r.wet) := blk_cell kb rfl
  cases f8 : finTo [r.dry, r.wet] 2
  · rw [f8] at KW
    have HU := Lib.hid (room_no (r := r) (.inr (.inr (.inr (.inr (.inr (.inr (.inr (f8)))))))))
    go_wp2_with fail
    refine (KW.out _ _ (OF.fs (g := _) (OF.made' (xs := [r.dry, r.wet]) (by simp) rfl (by omega)))).mono ?_
    rintro e w' ⟨rfl, dw, rfl⟩
    go_wp2
    go_ret
    have bE := HB.out
    have bz := bE.size
    exact ⟨by rw [HU.out]; rfl, by (repeat (first | (with_reducible refine Below.drewN ?_) | (with_reducible refine Below.drew ?_) | ((with_reducible refine Below.alloc ?_ ?_ _); rotate_left; (first | omega | (simp <;> omega))) | ((with_reducible refine Below.setCell ?_ ?_ _); rotate_left; (first | omega | (simp <;> omega))) | (with_reducible exact Below.refl _ _) | (with_reducible assumption)))⟩
  rw [f8] at KW
  go_wp2_with fail
  refine (KW.out _ _ (OF.fs (g := _) (OF.made' (xs := [r.dry, r.wet]) (by simp) rfl (by omega)))).mono ?_
  rintro e w' ⟨rfl, dw, rfl⟩
  generalize hV : (((w1.drewN dg).alloc (.cells (arr [r.dry, r.wet]) 24)).drewN dw) = V
  have hbV : Below w1.heap.size w1 V := by rw [← hV]; (repeat (first | (with_reducible refine Below.drewN ?_) | (with_reducible refine Below.drew ?_) | ((with_reducible refine Below.alloc ?_ ?_ _); rotate_left; (first | omega | (simp <;> omega))) | ((with_reducible refine Below.setCell ?_ ?_ _); rotate_left; (first | omega | (simp <;> omega))) | (with_reducible exact Below.refl _ _) | (with_reducible assumption)))
  clear hV
  have kb1 := (hbV.block _ (Array.getElem?_eq_some_iff.1 kb).1).trans kb
  have HB1 := Lib.hid (HB.out.trans (hbV.mono HB.out.size))
  clear kb HB hbV
  have kb := kb1
  have HB := HB1
  clear kb1 HB1
  clear a2 a41 a42 a43 a44 a45 a46
  have a3 : V.cell? ⟨w.heap.size, 3, none⟩ = some (.slice r.c0.a r.c0.n r.c0.c) := blk_cell kb rfl
  have a4 : V.cell? ⟨w.heap.size, 4, none⟩ = some (.int .i64 r.c0.i) := blk_cell kb rfl
  have a5 : V.cell? ⟨w.heap.size, 5, none⟩ = some (.float .f32 r.g0) := blk_cell kb rfl
  cases f2 : combB r.c0 r.g0
  · rw [f2] at KC0
    have HU := Lib.hid (room_no (r := r) (.inr (.inl (f2))))
    go_wp2_with fail
    refine (KC0.out _ HB.out).mono ?_
    rintro e w2 ⟨rfl, hb⟩
    have kb1 := (hb.block _ (Array.getElem?_eq_some_iff.1 kb).1).trans kb
    have HB1 := Lib.hid (HB.out.trans (hb.mono HB.out.size))
    clear kb HB hb
    have kb := kb1
    have HB := HB1
    clear kb1 HB1
    go_wp2
    go_ret
    have bE := HB.out
    have bz := bE.size
    exact ⟨by rw [HU.out]; rfl, by (repeat (first | (with_reducible refine Below.drewN ?_) | (with_reducible refine Below.drew ?_) | ((with_reducible refine Below.alloc ?_ ?_ _); rotate_left; (first | omega | (simp <;> omega))) | ((with_reducible refine Below.setCell ?_ ?_ _); rotate_left; (first | omega | (simp <;> omega))) | (with_reducible exact Below.refl _ _) | (with_reducible assumption)))⟩
  rw [f2] at KC0
  go_wp2_with fail
  refine (KC0.out _ HB.out).mono ?_
  rintro e w2 ⟨rfl, hb⟩
  have kb1 := (hb.block _ (Array.getElem?_eq_some_iff.1 kb).1).trans kb
  have HB1 := Lib.hid (HB.out.trans (hb.mono HB.out.size))
  clear kb HB hb
  have kb := kb1
  have HB := HB1
  clear kb1 HB1
  clear a3 a4 a5
  have a6 : w2.cell? ⟨w.heap.size, 6, none⟩ = some (.slice r.c1.a r.c1.n r.c1.c) := blk_cell kb rfl
  have a7 : w2.cell? ⟨w.heap.size, 7, none⟩ = some (.int .i64 r.c1.i) := blk_cell kb rfl
  have a8 : w2.cell? ⟨w.heap.size, 8, none⟩ = some (.float .f32 r.g1) := blk_cell kb rfl
  cases f3 : combB r.c1 r.g1
  · rw [f3] at KC1
    have HU := Lib.hid (room_no (r := r) (.inr (.inr (.inl (f3)))))
    go_wp2_with fail
    refine (KC1.out _ HB.out).mono ?_
    rintro e w3 ⟨rfl, hb⟩
    have kb1 := (hb.block _ (Array.getElem?_eq_some_iff.1 kb).1).trans kb
    have HB1 := Lib.hid (HB.out.trans (hb.mono HB.out.size))
    clear kb HB hb
    have kb := kb1
    have HB := HB1
    clear kb1 HB1
    go_wp2
    go_ret
    have bE := HB.out
    have bz := bE.size
    exact ⟨by rw [HU.out]; rfl, by (repeat (first | (with_reducible refine Below.drewN ?_) | (with_reducible refine Below.drew ?_) | ((with_reducible refine Below.alloc ?_ ?_ _); rotate_left; (first | omega | (simp <;> omega))) | ((with_reducible refine Below.setCell ?_ ?_ _); rotate_left; (first | omega | (simp <;> omega))) | (with_reducible exact Below.refl _ _) | (with_reducible assumption)))⟩
  rw [f3] at KC1
  go_wp2_with fail
  refine (KC1.out _ HB.out).mono ?_
  rintro e w3 ⟨rfl, hb⟩
  have kb1 := (hb.block _ (Array.getElem?_eq_some_iff.1 kb).1).trans kb
  have HB1 := Lib.hid (HB.out.trans (hb.mono HB.out.size))
  clear kb HB hb
  have kb := kb1
  have HB := HB1
  clear kb1 HB1
  clear a6 a7 a8
  have a9 : w3.cell? ⟨w.heap.size, 9, none⟩ = some (.slice r.l0.a r.l0.n r.l0.c) := blk_cell kb rfl
  have a10 : w3.cell? ⟨w.heap.size, 10, none⟩ = some (.int .i64 r.l0.i) := blk_cell kb rfl
  have a11 : w3.cell? ⟨w.heap.size, 11, none⟩ = some (.slice r.l1.a r.l1.n r.l1.c) := blk_cell kb rfl
  have a12 : w3.cell? ⟨w.heap.size, 12, none⟩ = some (.int .i64 r.l1.i) := blk_cell kb rfl
  have a13 : w3.cell? ⟨w.heap.size, 13, none⟩ = some (.slice r.l2.a r.l2.n r.l2.c) := blk_cell kb rfl
  have a14 : w3.cell? ⟨w.heap.size, 14, none⟩ = some (.int .i64 r.l2.i) := blk_cell kb rfl
  have a15 : w3.cell? ⟨w.heap.size, 15, none⟩ = some (.slice r.l3.a r.l3.n r.l3.c) := blk_cell kb rfl
  have a16 : w3.cell? ⟨w.heap.size, 16, none⟩ = some (.int .i64 r.l3.i) := blk_cell kb rfl
  go_upto_region 4 with fail
  clear a9 a10 a11 a12 a13 a14 a15 a16
  refine wp_loop_rounds 5 ?_
  rw [rounds_succ]
  have zl := (Array.getElem?_eq_some_iff.1 kb).1
  cases r0 : rokB r.l0
  · rw [r0] at KR0
    have HU := Lib.hid (room_no (r := r) (.inr (.inr (.inr (.inl (rgsTo_false (rs := [r.l0, r.l1, r.l2, r.l3]) (k := 0) r0 4 (by omega)))))))
    go_wp2_with fail
    refine (KR0.out _ (by have bE := HB.out; (repeat (first | (with_reducible refine Below.drewN ?_) | (with_reducible refine Below.drew ?_) | ((with_reducible refine Below.alloc ?_ ?_ _); rotate_left; (first | omega | (simp <;> omega))) | ((with_reducible refine Below.setCell ?_ ?_ _); rotate_left; (first | omega | (simp <;> omega))) | (with_reducible exact Below.refl _ _) | (with_reducible assumption))))).mono ?_
    rintro e u0 ⟨rfl, hb⟩
    have hbx : Below w3.heap.size w3 u0 := Below.trans (by (repeat (first | (with_reducible refine Below.drewN ?_) | (with_reducible refine Below.drew ?_) | ((with_reducible refine Below.alloc ?_ ?_ _); rotate_left; (first | omega | (simp <;> omega))) | ((with_reducible refine Below.setCell ?_ ?_ _); rotate_left; (first | omega | (simp <;> omega))) | (with_reducible exact Below.refl _ _) | (with_reducible assumption)))) (hb.mono (by first | omega | (simp; done) | (simp; omega)))
    obtain ⟨hcu, _, _⟩ := bcell hb
    clear hb
    have kb1 := (hbx.block _ (Array.getElem?_eq_some_iff.1 kb).1).trans kb
    have HB1 := Lib.hid (HB.out.trans (hbx.mono HB.out.size))
    clear kb HB hbx
    have kb := kb1
    have HB := HB1
    clear kb1 HB1
    go_wp2
    go_ret
    have bE := HB.out
    have bz := bE.size
    exact ⟨by rw [HU.out]; rfl, by (repeat (first | (with_reducible refine Below.drewN ?_) | (with_reducible refine Below.drew ?_) | ((with_reducible refine Below.alloc ?_ ?_ _); rotate_left; (first | omega | (simp <;> omega))) | ((with_reducible refine Below.setCell ?_ ?_ _); rotate_left; (first | omega | (simp <;> omega))) | (with_reducible exact Below.refl _ _) | (with_reducible assumption)))⟩
  rw [r0] at KR0
  go_wp2_with fail
  refine (KR0.out _ (by have bE := HB.out; (repeat (first | (with_reducible refine Below.drewN ?_) | (with_reducible refine Below.drew ?_) | ((with_reducible refine Below.alloc ?_ ?_ _); rotate_left; (first | omega | (simp <;> omega))) | ((with_reducible refine Below.setCell ?_ ?_ _); rotate_left; (first | omega | (simp <;> omega))) | (with_reducible exact Below.refl _ _) | (with_reducible assumption))))).mono ?_
  rintro e u0 ⟨rfl, hb⟩
  have hbx : Below w3.heap.size w3 u0 := Below.trans (by (repeat (first | (with_reducible refine Below.drewN ?_) | (with_reducible refine Below.drew ?_) | ((with_reducible refine Below.alloc ?_ ?_ _); rotate_left; (first | omega | (simp <;> omega))) | ((with_reducible refine Below.setCell ?_ ?_ _); rotate_left; (first | omega | (simp <;> omega))) | (with_reducible exact Below.refl _ _) | (with_reducible assumption)))) (hb.mono (by first | omega | (simp; done) | (simp; omega)))
  obtain ⟨hcu, _, _⟩ := bcell hb
  clear hb
  have kb1 := (hbx.block _ (Array.getElem?_eq_some_iff.1 kb).1).trans kb
  have HB1 := Lib.hid (HB.out.trans (hbx.mono HB.out.size))
  clear kb HB hbx
  have kb := kb1
  have HB := HB1
  clear kb1 HB1
  clear zl hcu
  have a17 : u0.cell? ⟨w.heap.size, 17, none⟩ = some (.int .i64 r.d0.k) := blk_cell kb rfl
  have a18 : u0.cell? ⟨w.heap.size, 18, none⟩ = some (.float .f32 r.d0.f0) := blk_cell kb rfl
  have a19 : u0.cell? ⟨w.heap.size, 19, none⟩ = some (.float .f32 r.d0.f1) := blk_cell kb rfl
  have a20 : u0.cell? ⟨w.heap.size, 20, none⟩ = some (.float .f32 r.d0.f2) := blk_cell kb rfl
  have a21 : u0.cell? ⟨w.heap.size, 21, none⟩ = some (.float .f32 r.d0.f3) := blk_cell kb rfl
  have a22 : u0.cell? ⟨w.heap.size, 22, none⟩ = some (.float .f32 r.d0.f4) := blk_cell kb rfl
  cases s0 : dkB r.d0
  · rw [s0] at KD0
    have HU := Lib.hid (room_no (r := r) (.inr (.inr (.inr (.inr (.inr (.inl (dTo_false (r := r) (k := 0) s0 4 (by omega)))))))))
    go_wp2_with fail
    refine (KD0.out _).mono ?_
    rintro e x0 ⟨rfl, hb⟩
    have kb1 := (hb.block _ (Array.getElem?_eq_some_iff.1 kb).1).trans kb
    have HB1 := Lib.hid (HB.out.trans (hb.mono HB.out.size))
    clear kb HB hb
    have kb := kb1
    have HB := HB1
    clear kb1 HB1
    go_wp2
    go_ret
    have bE := HB.out
    have bz := bE.size
    exact ⟨by rw [HU.out]; rfl, by (repeat (first | (with_reducible refine Below.drewN ?_) | (with_reducible refine Below.drew ?_) | ((with_reducible refine Below.alloc ?_ ?_ _); rotate_left; (first | omega | (simp <;> omega))) | ((with_reducible refine Below.setCell ?_ ?_ _); rotate_left; (first | omega | (simp <;> omega))) | (with_reducible exact Below.refl _ _) | (with_reducible assumption)))⟩
  rw [s0] at KD0
  go_wp2_with fail
  refine (KD0.out _).mono ?_
  rintro e x0 ⟨rfl, hb⟩
  have kb1 := (hb.block _ (Array.getElem?_eq_some_iff.1 kb).1).trans kb
  have HB1 := Lib.hid (HB.out.trans (hb.mono HB.out.size))
  clear kb HB hb
  have kb := kb1
  have HB := HB1
  clear kb1 HB1
  clear a17 a18 a19 a20 a21 a22
  go_wp2
  rw [rounds_succ]
  have zl := (Array.getElem?_eq_some_iff.1 kb).1
  cases r1 : rokB r.l1
  · rw [r1] at KR1
    have HU := Lib.hid (room_no (r := r) (.inr (.inr (.inr (.inl (rgsTo_false (rs := [r.l0, r.l1, r.l2, r.l3]) (k := 1) r1 4 (by omega)))))))
    go_wp2_with fail
    refine (KR1.out _ (by have bE := HB.out; (repeat (first | (with_reducible refine Below.drewN ?_) | (with_reducible refine Below.drew ?_) | ((with_reducible refine Below.alloc ?_ ?_ _); rotate_left; (first | omega | (simp <;> omega))) | ((with_reducible refine Below.setCell ?_ ?_ _); rotate_left; (first | omega | (simp <;> omega))) | (with_reducible exact Below.refl _ _) | (with_reducible assumption))))).mono ?_
    rintro e u1 ⟨rfl, hb⟩
    have hbx : Below x0.heap.size x0 u1 := Below.trans (by (repeat (first | (with_reducible refine Below.drewN ?_) | (with_reducible refine Below.drew ?_) | ((with_reducible refine Below.alloc ?_ ?_ _); rotate_left; (first | omega | (simp <;> omega))) | ((with_reducible refine Below.setCell ?_ ?_ _); rotate_left; (first | omega | (simp <;> omega))) | (with_reducible exact Below.refl _ _) | (with_reducible assumption)))) (hb.mono (by first | omega | (simp; done) | (simp; omega)))
    obtain ⟨hcu, _, _⟩ := bcell hb
    clear hb
    have kb1 := (hbx.block _ (Array.getElem?_eq_some_iff.1 kb).1).trans kb
    have HB1 := Lib.hid (HB.out.trans (hbx.mono HB.out.size))
    clear kb HB hbx
    have kb := kb1
    have HB := HB1
    clear kb1 HB1
    go_wp2
    go_ret
    have bE := HB.out
    have bz := bE.size
    exact ⟨by rw [HU.out]; rfl, by (repeat (first | (with_reducible refine Below.drewN ?_) | (with_reducible refine Below.drew ?_) | ((with_reducible refine Below.alloc ?_ ?_ _); rotate_left; (first | omega | (simp <;> omega))) | ((with_reducible refine Below.setCell ?_ ?_ _); rotate_left; (first | omega | (simp <;> omega))) | (with_reducible exact Below.refl _ _) | (with_reducible assumption)))⟩
  rw [r1] at KR1
  go_wp2_with fail
  refine (KR1.out _ (by have bE := HB.out; (repeat (first | (with_reducible refine Below.drewN ?_) | (with_reducible refine Below.drew ?_) | ((with_reducible refine Below.alloc ?_ ?_ _); rotate_left; (first | omega | (simp <;> omega))) | ((with_reducible refine Below.setCell ?_ ?_ _); rotate_left; (first | omega | (simp <;> omega))) | (with_reducible exact Below.refl _ _) | (with_reducible assumption))))).mono ?_
  rintro e u1 ⟨rfl, hb⟩
  have hbx : Below x0.heap.size x0 u1 := Below.trans (by (repeat (first | (with_reducible refine Below.drewN ?_) | (with_reducible refine Below.drew ?_) | ((with_reducible refine Below.alloc ?_ ?_ _); rotate_left; (first | omega | (simp <;> omega))) | ((with_reducible refine Below.setCell ?_ ?_ _); rotate_left; (first | omega | (simp <;> omega))) | (with_reducible exact Below.refl _ _) | (with_reducible assumption)))) (hb.mono (by first | omega | (simp; done) | (simp; omega)))
  obtain ⟨hcu, _, _⟩ := bcell hb
  clear hb
  have kb1 := (hbx.block _ (Array.getElem?_eq_some_iff.1 kb).1).trans kb
  have HB1 := Lib.hid (HB.out.trans (hbx.mono HB.out.size))
  clear kb HB hbx
  have kb := kb1
  have HB := HB1
  clear kb1 HB1
  clear zl hcu
  have a23 : u1.cell? ⟨w.heap.size, 23, none⟩ = some (.int .i64 r.d1.k) := blk_cell kb rfl
  have a24 : u1.cell? ⟨w.heap.size, 24, none⟩ = some (.float .f32 r.d1.f0) := blk_cell kb rfl
  have a25 : u1.cell? ⟨w.heap.size, 25, none⟩ = some (.float .f32 r.d1.f1) := blk_cell kb rfl
  have a26 : u1.cell? ⟨w.heap.size, 26, none⟩ = some (.float .f32 r.d1.f2) := blk_cell kb rfl
  have a27 : u1.cell? ⟨w.heap.size, 27, none⟩ = some (.float .f32 r.d1.f3) := blk_cell kb rfl
  have a28 : u1.cell? ⟨w.heap.size, 28, none⟩ = some (.float .f32 r.d1.f4) := blk_cell kb rfl
  cases s1 : dkB r.d1
  · rw [s1] at KD1
    have HU := Lib.hid (room_no (r := r) (.inr (.inr (.inr (.inr (.inr (.inl (dTo_false (r := r) (k := 1) s1 4 (by omega)))))))))
    go_wp2_with fail
    refine (KD1.out _).mono ?_
    rintro e x1 ⟨rfl, hb⟩
    have kb1 := (hb.block _ (Array.getElem?_eq_some_iff.1 kb).1).trans kb
    have HB1 := Lib.hid (HB.out.trans (hb.mono HB.out.size))
    clear kb HB hb
    have kb := kb1
    have HB := HB1
    clear kb1 HB1
    go_wp2
    go_ret
    have bE := HB.out
    have bz := bE.size
    exact ⟨by rw [HU.out]; rfl, by (repeat (first | (with_reducible refine Below.drewN ?_) | (with_reducible refine Below.drew ?_) | ((with_reducible refine Below.alloc ?_ ?_ _); rotate_left; (first | omega | (simp <;> omega))) | ((with_reducible refine Below.setCell ?_ ?_ _); rotate_left; (first | omega | (simp <;> omega))) | (with_reducible exact Below.refl _ _) | (with_reducible assumption)))⟩
  rw [s1] at KD1
  go_wp2_with fail
  refine (KD1.out _).mono ?_
  rintro e x1 ⟨rfl, hb⟩
  have kb1 := (hb.block _ (Array.getElem?_eq_some_iff.1 kb).1).trans kb
  have HB1 := Lib.hid (HB.out.trans (hb.mono HB.out.size))
  clear kb HB hb
  have kb := kb1
  have HB := HB1
  clear kb1 HB1
  clear a23 a24 a25 a26 a27 a28
  go_wp2
  rw [rounds_succ]
  have zl := (Array.getElem?_eq_some_iff.1 kb).1
  cases r2 : rokB r.l2
  · rw [r2] at KR2
    have HU := Lib.hid (room_no (r := r) (.inr (.inr (.inr (.inl (rgsTo_false (rs := [r.l0, r.l1, r.l2, r.l3]) (k := 2) r2 4 (by omega)))))))
    go_wp2_with fail
    refine (KR2.out _ (by have bE := HB.out; (repeat (first | (with_reducible refine Below.drewN ?_) | (with_reducible refine Below.drew ?_) | ((with_reducible refine Below.alloc ?_ ?_ _); rotate_left; (first | omega | (simp <;> omega))) | ((with_reducible refine Below.setCell ?_ ?_ _); rotate_left; (first | omega | (simp <;> omega))) | (with_reducible exact Below.refl _ _) | (with_reducible assumption))))).mono ?_
    rintro e u2 ⟨rfl, hb⟩
    have hbx : Below x1.heap.size x1 u2 := Below.trans (by (repeat (first | (with_reducible refine Below.drewN ?_) | (with_reducible refine Below.drew ?_) | ((with_reducible refine Below.alloc ?_ ?_ _); rotate_left; (first | omega | (simp <;> omega))) | ((with_reducible refine Below.setCell ?_ ?_ _); rotate_left; (first | omega | (simp <;> omega))) | (with_reducible exact Below.refl _ _) | (with_reducible assumption)))) (hb.mono (by first | omega | (simp; done) | (simp; omega)))
    obtain ⟨hcu, _, _⟩ := bcell hb
    clear hb
    have kb1 := (hbx.block _ (Array.getElem?_eq_some_iff.1 kb).1).trans kb
    have HB1 := Lib.hid (HB.out.trans (hbx.mono HB.out.size))
    clear kb HB hbx
    have kb := kb1
    have HB := HB1
    clear kb1 HB1
    go_wp2
    go_ret
    have bE := HB.out
    have bz := bE.size
    exact ⟨by rw [HU.out]; rfl, by (repeat (first | (with_reducible refine Below.drewN ?_) | (with_reducible refine Below.drew ?_) | ((with_reducible refine Below.alloc ?_ ?_ _); rotate_left; (first | omega | (simp <;> omega))) | ((with_reducible refine Below.setCell ?_ ?_ _); rotate_left; (first | omega | (simp <;> omega))) | (with_reducible exact Below.refl _ _) | (with_reducible assumption)))⟩
  rw [r2] at KR2
  go_wp2_with fail
  refine (KR2.out _ (by have bE := HB.out; (repeat (first | (with_reducible refine Below.drewN ?_) | (with_reducible refine Below.drew ?_) | ((with_reducible refine Below.alloc ?_ ?_ _); rotate_left; (first | omega | (simp <;> omega))) | ((with_reducible refine Below.setCell ?_ ?_ _); rotate_left; (first | omega | (simp <;> omega))) | (with_reducible exact Below.refl _ _) | (with_reducible assumption))))).mono ?_
  rintro e u2 ⟨rfl, hb⟩
  have hbx : Below x1.heap.size x1 u2 := Below.trans (by (repeat (first | (with_reducible refine Below.drewN ?_) | (with_reducible refine Below.drew ?_) | ((with_reducible refine Below.alloc ?_ ?_ _); rotate_left; (first | omega | (simp <;> omega))) | ((with_reducible refine Below.setCell ?_ ?_ _); rotate_left; (first | omega | (simp <;> omega))) | (with_reducible exact Below.refl _ _) | (with_reducible assumption)))) (hb.mono (by first | omega | (simp; done) | (simp; omega)))
  obtain ⟨hcu, _, _⟩ := bcell hb
  clear hb
  have kb1 := (hbx.block _ (Array.getElem?_eq_some_iff.1 kb).1).trans kb
  have HB1 := Lib.hid (HB.out.trans (hbx.mono HB.out.size))
  clear kb HB hbx
  have kb := kb1
  have HB := HB1
  clear kb1 HB1
  clear zl hcu
  have a29 : u2.cell? ⟨w.heap.size, 29, none⟩ = some (.int .i64 r.d2.k) := blk_cell kb rfl
  have a30 : u2.cell? ⟨w.heap.size, 30, none⟩ = some (.float .f32 r.d2.f0) := blk_cell kb rfl
  have a31 : u2.cell? ⟨w.heap.size, 31, none⟩ = some (.float .f32 r.d2.f1) := blk_cell kb rfl
  have a32 : u2.cell? ⟨w.heap.size, 32, none⟩ = some (.float .f32 r.d2.f2) := blk_cell kb rfl
  have a33 : u2.cell? ⟨w.heap.size, 33, none⟩ = some (.float .f32 r.d2.f3) := blk_cell kb rfl
  have a34 : u2.cell? ⟨w.heap.size, 34, none⟩ = some (.float .f32 r.d2.f4) := blk_cell kb rfl
  cases s2 : dkB r.d2
  · rw [s2] at KD2
    have HU := Lib.hid (room_no (r := r) (.inr (.inr (.inr (.inr (.inr (.inl (dTo_false (r := r) (k := 2) s2 4 (by omega)))))))))
    go_wp2_with fail
    refine (KD2.out _).mono ?_
    rintro e x2 ⟨rfl, hb⟩
    have kb1 := (hb.block _ (Array.getElem?_eq_some_iff.1 kb).1).trans kb
    have HB1 := Lib.hid (HB.out.trans (hb.mono HB.out.size))
    clear kb HB hb
    have kb := kb1
    have HB := HB1
    clear kb1 HB1
    go_wp2
    go_ret
    have bE := HB.out
    have bz := bE.size
    exact ⟨by rw [HU.out]; rfl, by (repeat (first | (with_reducible refine Below.drewN ?_) | (with_reducible refine Below.drew ?_) | ((with_reducible refine Below.alloc ?_ ?_ _); rotate_left; (first | omega | (simp <;> omega))) | ((with_reducible refine Below.setCell ?_ ?_ _); rotate_left; (first | omega | (simp <;> omega))) | (with_reducible exact Below.refl _ _) | (with_reducible assumption)))⟩
  rw [s2] at KD2
  go_wp2_with fail
  refine (KD2.out _).mono ?_
  rintro e x2 ⟨rfl, hb⟩
  have kb1 := (hb.block _ (Array.getElem?_eq_some_iff.1 kb).1).trans kb
  have HB1 := Lib.hid (HB.out.trans (hb.mono HB.out.size))
  clear kb HB hb
  have kb := kb1
  have HB := HB1
  clear kb1 HB1
  clear a29 a30 a31 a32 a33 a34
  go_wp2
  rw [rounds_succ]
  have zl := (Array.getElem?_eq_some_iff.1 kb).1
  cases r3 : rokB r.l3
  · rw [r3] at KR3
    have HU := Lib.hid (room_no (r := r) (.inr (.inr (.inr (.inl (rgsTo_false (rs := [r.l0, r.l1, r.l2, r.l3]) (k := 3) r3 4 (by omega)))))))
    go_wp2_with fail
    refine (KR3.out _ (by have bE := HB.out; (repeat (first | (with_reducible refine Below.drewN ?_) | (with_reducible refine Below.drew ?_) | ((with_reducible refine Below.alloc ?_ ?_ _); rotate_left; (first | omega | (simp <;> omega))) | ((with_reducible refine Below.setCell ?_ ?_ _); rotate_left; (first | omega | (simp <;> omega))) | (with_reducible exact Below.refl _ _) | (with_reducible assumption))))).mono ?_
    rintro e u3 ⟨rfl, hb⟩
    have hbx : Below x2.heap.size x2 u3 := Below.trans (by (repeat (first | (with_reducible refine Below.drewN ?_) | (with_reducible refine Below.drew ?_) | ((with_reducible refine Below.alloc ?_ ?_ _); rotate_left; (first | omega | (simp <;> omega))) | ((with_reducible refine Below.setCell ?_ ?_ _); rotate_left; (first | omega | (simp <;> omega))) | (with_reducible exact Below.refl _ _) | (with_reducible assumption)))) (hb.mono (by first | omega | (simp; done) | (simp; omega)))
    obtain ⟨hcu, _, _⟩ := bcell hb
    clear hb
    have kb1 := (hbx.block _ (Array.getElem?_eq_some_iff.1 kb).1).trans kb
    have HB1 := Lib.hid (HB.out.trans (hbx.mono HB.out.size))
    clear kb HB hbx
    have kb := kb1
    have HB := HB1
    clear kb1 HB1
    go_wp2
    go_ret
    have bE := HB.out
    have bz := bE.size
    exact ⟨by rw [HU.out]; rfl, by (repeat (first | (with_reducible refine Below.drewN ?_) | (with_reducible refine Below.drew ?_) | ((with_reducible refine Below.alloc ?_ ?_ _); rotate_left; (first | omega | (simp <;> omega))) | ((with_reducible refine Below.setCell ?_ ?_ _); rotate_left; (first | omega | (simp <;> omega))) | (with_reducible exact Below.refl _ _) | (with_reducible assumption)))⟩
  rw [r3] at KR3
  go_wp2_with fail
  refine (KR3.out _ (by have bE := HB.out; (repeat (first | (with_reducible refine Below.drewN ?_) | (with_reducible refine Below.drew ?_) | ((with_reducible refine Below.alloc ?_ ?_ _); rotate_left; (first | omega | (simp <;> omega))) | ((with_reducible refine Below.setCell ?_ ?_ _); rotate_left; (first | omega | (simp <;> omega))) | (with_reducible exact Below.refl _ _) | (with_reducible assumption))))).mono ?_
  rintro e u3 ⟨rfl, hb⟩
  have hbx : Below x2.heap.size x2 u3 := Below.trans (by (repeat (first | (with_reducible refine Below.drewN ?_) | (with_reducible refine Below.drew ?_) | ((with_reducible refine Below.alloc ?_ ?_ _); rotate_left; (first | omega | (simp <;> omega))) | ((with_reducible refine Below.setCell ?_ ?_ _); rotate_left; (first | omega | (simp <;> omega))) | (with_reducible exact Below.refl _ _) | (with_reducible assumption)))) (hb.mono (by first | omega | (simp; done) | (simp; omega)))
  obtain ⟨hcu, _, _⟩ := bcell hb
  clear hb
  have kb1 := (hbx.block _ (Array.getElem?_eq_some_iff.1 kb).1).trans kb
  have HB1 := Lib.hid (HB.out.trans (hbx.mono HB.out.size))
  clear kb HB hbx
  have kb := kb1
  have HB := HB1
  clear kb1 HB1
  clear zl hcu
  have a35 : u3.cell? ⟨w.heap.size, 35, none⟩ = some (.int .i64 r.d3.k) := blk_cell kb rfl
  have a36 : u3.cell? ⟨w.heap.size, 36, none⟩ = some (.float .f32 r.d3.f0) := blk_cell kb rfl
  have a37 : u3.cell? ⟨w.heap.size, 37, none⟩ = some (.float .f32 r.d3.f1) := blk_cell kb rfl
  have a38 : u3.cell? ⟨w.heap.size, 38, none⟩ = some (.float .f32 r.d3.f2) := blk_cell kb rfl
  have a39 : u3.cell? ⟨w.heap.size, 39, none⟩ = some (.float .f32 r.d3.f3) := blk_cell kb rfl
  have a40 : u3.cell? ⟨w.heap.size, 40, none⟩ = some (.float .f32 r.d3.f4) := blk_cell kb rfl
  cases s3 : dkB r.d3
  · rw [s3] at KD3
    have HU := Lib.hid (room_no (r := r) (.inr (.inr (.inr (.inr (.inr (.inl (dTo_false (r := r) (k := 3) s3 4 (by omega)))))))))
    go_wp2_with fail
    refine (KD3.out _).mono ?_
    rintro e x3 ⟨rfl, hb⟩
    have kb1 := (hb.block _ (Array.getElem?_eq_some_iff.1 kb).1).trans kb
    have HB1 := Lib.hid (HB.out.trans (hb.mono HB.out.size))
    clear kb HB hb
    have kb := kb1
    have HB := HB1
    clear kb1 HB1
    go_wp2
    go_ret
    have bE := HB.out
    have bz := bE.size
    exact ⟨by rw [HU.out]; rfl, by (repeat (first | (with_reducible refine Below.drewN ?_) | (with_reducible refine Below.drew ?_) | ((with_reducible refine Below.alloc ?_ ?_ _); rotate_left; (first | omega | (simp <;> omega))) | ((with_reducible refine Below.setCell ?_ ?_ _); rotate_left; (first | omega | (simp <;> omega))) | (with_reducible exact Below.refl _ _) | (with_reducible assumption)))⟩
  rw [s3] at KD3
  go_wp2_with fail
  refine (KD3.out _).mono ?_
  rintro e x3 ⟨rfl, hb⟩
  have kb1 := (hb.block _ (Array.getElem?_eq_some_iff.1 kb).1).trans kb
  have HB1 := Lib.hid (HB.out.trans (hb.mono HB.out.size))
  clear kb HB hb
  have kb := kb1
  have HB := HB1
  clear kb1 HB1
  clear a35 a36 a37 a38 a39 a40
  go_wp2
  have HR : Hid (roomB r = tapTo r.ts r.e.n r.tn) := by
    show roomB r = _
    have e4 : rgsTo [r.l0, r.l1, r.l2, r.l3] 4 = (((true && rokB r.l0) && rokB r.l1) && rokB r.l2 && rokB r.l3) := rfl
    have e5 : dTo r 4 = ((((true && dkB r.d0) && dkB r.d1) && dkB r.d2) && dkB r.d3) := rfl
    unfold roomB
    rw [f1, f2, f3, e4, e5, r0, r1, r2, r3, s0, s1, s2, s3, fin6, f7, f8, decide_eq_true (show (r.tn : Int) ≤ 6 by omega)]
    simp
  rw [rounds_succ]
  have a0 : x3.cell? ⟨w.heap.size, 0, none⟩ = some (.slice r.e.a r.e.n r.e.c) := blk_cell kb rfl
  have a2 : x3.cell? ⟨w.heap.size, 2, none⟩ = some (.slice r.ta r.tn r.tc) := blk_cell kb rfl
  have zl := (Array.getElem?_eq_some_iff.1 kb).1
  go_wp2_with fail
  refine (c_ContainsFuncT w.heap.size _ _ _ _ _ _ r.ts _ (N.out.t.below HB.out (Nat.le_refl _)) a0 zl).mono ?_
  rintro e y1 ⟨rfl, hb⟩
  have bE := HB.out.trans (hb.mono HB.out.size)
  go_wp2
  go_ret
  exact ⟨by rw [HR.out]; simp, bE⟩
end Go.Proofs.Ytfhegjjgfaeinaa
