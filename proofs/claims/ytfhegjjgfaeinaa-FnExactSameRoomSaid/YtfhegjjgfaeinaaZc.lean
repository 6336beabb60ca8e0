
/-
Are rooms the same: the program's walk.
-/
import Derived.Test.YtfhegjjgfaeinaaZb
namespace Go.Proofs.Ytfhegjjgfaeinaa
open Go Go.RowKit Fl
def Rv.c (r : Rv) : Nat → Rg
  | 0 => r.c0
  | _ => r.c1
def Rv.g (r : Rv) : Nat → Nat
  | 0 => r.g0
  | _ => r.g1
def Rv.l (r : Rv) : Nat → Rg
  | 0 => r.l0
  | 1 => r.l1
  | 2 => r.l2
  | _ => r.l3
def csTo (r s : Rv) : Nat → Bool
  | 0 => true
  | k + 1 => csTo r s k && combS (r.c k) (r.g k) (s.c k) (s.g k)
def lsB (r s : Rv) (k : Nat) : Bool := ringS (r.l k) (s.l k) && (ftS (r.d k) (s.d k) && sameB (r.h k) (s.h k))
def lsTo (r s : Rv) : Nat → Bool
  | 0 => true
  | k + 1 => lsTo r s k && lsB r s k
theorem csTo_false {r s : Rv} {k : Nat} (h : combS (r.c k) (r.g k) (s.c k) (s.g k) = false) : ∀ n, k < n → csTo r s n = false
  | 0, hn => absurd hn (by omega)
  | n + 1, hn => by
    by_cases e : k = n
    · subst e; rw [csTo, h, Bool.and_false]
    · rw [csTo, csTo_false h n (by omega), Bool.false_and]
theorem lsTo_false {r s : Rv} {k : Nat} (h : lsB r s k = false) : ∀ n, k < n → lsTo r s n = false
  | 0, hn => absurd hn (by omega)
  | n + 1, hn => by
    by_cases e : k = n
    · subst e; rw [lsTo, h, Bool.and_false]
    · rw [lsTo, lsTo_false h n (by omega), Bool.false_and]
theorem roomS_eq (r s : Rv) : roomS r s = (csTo r s 2 && (lsTo r s 4 && ((decide ((r.tn : Int) = s.tn) && tapsTo r.ts s.ts r.tn) && (ringS r.e s.e && (sameB r.dry s.dry && sameB r.wet s.wet))))) := by
  have e1 : csTo r s 2 = ((true && combS r.c0 r.g0 s.c0 s.g0) && combS r.c1 r.g1 s.c1 s.g1) := rfl
  have e2 : lsTo r s 4 = ((((true && (ringS r.l0 s.l0 && (ftS r.d0 s.d0 && sameB r.h0 s.h0))) && (ringS r.l1 s.l1 && (ftS r.d1 s.d1 && sameB r.h1 s.h1))) && (ringS r.l2 s.l2 && (ftS r.d2 s.d2 && sameB r.h2 s.h2))) && (ringS r.l3 s.l3 && (ftS r.d3 s.d3 && sameB r.h3 s.h3))) := rfl
  have e3 : rgsSame [r.l0, r.l1, r.l2, r.l3] [s.l0, s.l1, s.l2, s.l3] 4 = ((((true && ringS r.l0 s.l0) && ringS r.l1 s.l1) && ringS r.l2 s.l2) && ringS r.l3 s.l3) := rfl
  have e4 : dhTo r s 4 = ((((true && (ftS r.d0 s.d0 && sameB r.h0 s.h0)) && (ftS r.d1 s.d1 && sameB r.h1 s.h1)) && (ftS r.d2 s.d2 && sameB r.h2 s.h2)) && (ftS r.d3 s.d3 && sameB r.h3 s.h3)) := rfl
  unfold roomS
  rw [e1, e2, e3, e4]
  simp only [Bool.true_and]
  generalize ringS r.e s.e = a1
  generalize decide ((r.tn : Int) = s.tn) = a2
  generalize combS r.c0 r.g0 s.c0 s.g0 = a3
  generalize combS r.c1 r.g1 s.c1 s.g1 = a4
  generalize tapsTo r.ts s.ts r.tn = a5
  rw [Bool.eq_iff_iff]
  simp only [Bool.and_eq_true]
  constructor
  · rintro ⟨h1, h2, h3, h4, h5, h6, h7, h8⟩
    obtain ⟨⟨⟨x0, x1⟩, x2⟩, x3⟩ := h5
    obtain ⟨⟨⟨y0, y1⟩, y2⟩, y3⟩ := h7
    exact ⟨⟨h3, h4⟩, ⟨⟨⟨⟨x0, y0⟩, ⟨x1, y1⟩⟩, ⟨x2, y2⟩⟩, ⟨x3, y3⟩⟩, ⟨h2, h6⟩, h1, h8⟩
  · rintro ⟨⟨h3, h4⟩, ⟨⟨⟨⟨x0, y0⟩, ⟨x1, y1⟩⟩, ⟨x2, y2⟩⟩, ⟨x3, y3⟩⟩, ⟨h2, h6⟩, h1, h8⟩
    exact ⟨h1, h2, h3, h4, ⟨⟨⟨x0, x1⟩, x2⟩, x3⟩, h6, ⟨⟨⟨y0, y1⟩, y2⟩, y3⟩, h8⟩
theorem cc_cells {w : World} {b : Nat} {r : Rv} {T : TypeId} (kb : w.heap[b]? = some (.cells r.cells T)) : ∀ k, k < 2 → w.cell? ⟨b, 3 + k * 3, none⟩ = some (.slice (r.c k).a (r.c k).n (r.c k).c) ∧ w.cell? ⟨b, 3 + k * 3 + 1, none⟩ = some (.int .i64 (r.c k).i) ∧ w.cell? ⟨b, 3 + k * 3 + 2, none⟩ = some (.float .f32 (r.g k))
  | 0, _ => ⟨blk_cell kb rfl, blk_cell kb rfl, blk_cell kb rfl⟩
  | 1, _ => ⟨blk_cell kb rfl, blk_cell kb rfl, blk_cell kb rfl⟩
  | k + 2, h => absurd h (by omega)
theorem ll_cells {w : World} {b : Nat} {r : Rv} {T : TypeId} (kb : w.heap[b]? = some (.cells r.cells T)) : ∀ k, k < 4 → w.cell? ⟨b, 9 + k * 2, none⟩ = some (.slice (r.l k).a (r.l k).n (r.l k).c) ∧ w.cell? ⟨b, 9 + k * 2 + 1, none⟩ = some (.int .i64 (r.l k).i)
  | 0, _ => ⟨blk_cell kb rfl, blk_cell kb rfl⟩
  | 1, _ => ⟨blk_cell kb rfl, blk_cell kb rfl⟩
  | 2, _ => ⟨blk_cell kb rfl, blk_cell kb rfl⟩
  | 3, _ => ⟨blk_cell kb rfl, blk_cell kb rfl⟩
  | k + 4, h => absurd h (by omega)
theorem cc_fs {w : World} {r : Rv} (h : RvM w r) : ∀ k, k < 2 → FS w (r.c k).a (r.c k).n (r.c k).c (r.c k).xs
  | 0, _ => h.q1
  | 1, _ => h.q2
  | k + 2, h => absurd h (by omega)
theorem ll_fs {w : World} {r : Rv} (h : RvM w r) : ∀ k, k < 4 → FS w (r.l k).a (r.l k).n (r.l k).c (r.l k).xs
  | 0, _ => h.q3
  | 1, _ => h.q4
  | 2, _ => h.q5
  | 3, _ => h.q6
  | k + 4, h => absurd h (by omega)
set_option maxRecDepth 100000 in
set_option maxHeartbeats 2000000 in
theorem c_SameRoom (r s : Rv) (w : World) (h : RvM w r) (h' : RvM w s) : Calls Try.prog 36 #[.agg r.cells, .agg s.cells] w (RetV (.bool (roomS r s)) w) := by
  have N := Lib.hid h
  have N' := Lib.hid h'
  rw [roomS_eq]
  clear h h'
  go_enter Try.func36, Try.ntmps36
  go_upto_region 1 with fail
  refine wp_named ?_
  intro w0 hW0
  have K := two_alloc w (.cells r.cells 51) (.cells s.cells 51)
  rw [← hW0] at K
  obtain ⟨kA, kB, zW, bW⟩ := K
  clear hW0
  have BW := Lib.hid bW
  have HA := Lib.hid kA
  have HB := Lib.hid kB
  clear bW kA kB
  go_wp2
  go_loopw [5, 8] (fun _ i wr => ∃ k : Nat, k ≤ 2 ∧ i = .int .i64 k ∧ Hid (csTo r s k = true) ∧ Below w0.heap.size w0 wr) (fun _ i _ => 2 - (intOf i).toNat)
  case atStart => exact ⟨0, by omega, rfl, rfl, Below.refl _ _⟩
  case round =>
    obtain ⟨k, hk, rfl, hall, hbe⟩ := hrel
    have HBE := Lib.hid hbe
    have bz := hbe.size
    have yA : w.heap.size < wr.heap.size := by omega
    have yB : w.heap.size + 1 < wr.heap.size := by omega
    have kA := (hbe.block w.heap.size (by omega)).trans HA.out
    have kB := (hbe.block (w.heap.size + 1) (by omega)).trans HB.out
    have BE := Lib.hid (BW.out.trans (hbe.mono BW.out.size))
    clear hbe
    by_cases hlt : k < 2
    · obtain ⟨x0, x1, x2⟩ := cc_cells kA k hlt
      obtain ⟨y0, y1, y2⟩ := cc_cells kB k hlt
      have hT : csTo r s (k + 1) = (csTo r s k && combS (r.c k) (r.g k) (s.c k) (s.g k)) := rfl
      have hD : combS (r.c k) (r.g k) (s.c k) (s.g k) = (ringS (r.c k) (s.c k) && sameB (r.g k) (s.g k)) := rfl
      have K1 : Hid (∀ W, Grow wr W → Calls Try.prog 105 #[.agg #[.slice (r.c k).a (r.c k).n (r.c k).c, .int .i64 (r.c k).i], .agg #[.slice (s.c k).a (s.c k).n (s.c k).c, .int .i64 (s.c k).i]] W (RetV (.bool (ringS (r.c k) (s.c k))) W)) := fun W hW => c_SameRing _ _ _ _ _ _ _ _ _ _ W ((cc_fs N.out k hlt).below (BE.out.trans (Below.mono hW BE.out.size)) (Nat.le_refl _)) ((cc_fs N'.out k hlt).below (BE.out.trans (Below.mono hW BE.out.size)) (Nat.le_refl _))
      have K2 : Hid (∀ W, Calls Try.prog 106 #[.float .f32 (r.g k), .float .f32 (s.g k)] W (RetB (sameB (r.g k) (s.g k)) W)) := fun W => c_SameSample _ _ W
      clear kA kB
      cases o1 : ringS (r.c k) (s.c k)
      · rw [o1] at K1
        have HU := Lib.hid (csTo_false (r := r) (s := s) (k := k) (by rw [hD, o1]; rfl) 2 hlt)
        clear o1 hD hT
        go_wp2
        refine wp_region_grow [] [] (by kernel_rfl) (by kernel_rfl) (by kernel_rfl) ?_
        apply Exists.intro
        iterate 10 (apply lh_o; kernel_rfl; kernel_rfl; kernel_rfl; (intro W hW; have hWc := Grow.cells hW; go_simp; exact ⟨OneV.mk _, Grow.refl _⟩))
        (apply lh_o; kernel_rfl; kernel_rfl; kernel_rfl; (intro W hW; go_simp; first | exact gB (K1.out _ hW) | exact gV (K1.out _ hW)))
        iterate 2 (apply lh_o; kernel_rfl; kernel_rfl; kernel_rfl; (intro W hW; have hWc := Grow.cells hW; go_simp; exact ⟨OneV.mk _, Grow.refl _⟩))
        iterate 12 (apply lh_skip; kernel_rfl; kernel_rfl)
        (apply lh_o; kernel_rfl; kernel_rfl; kernel_rfl; (intro W hW; have hWc := Grow.cells hW; go_simp; exact ⟨OneV.mk _, Grow.refl _⟩))
        (refine lh_nil ?_; intro W hW; simp only [Act.put, List.setIfInBounds_toArray, List.set_cons_succ, List.set_cons_zero])
        go_wp2
        go_ret
        exact ⟨by rw [HU.out]; rfl, BE.out.trans (Below.mono hW BE.out.size)⟩
      rw [o1] at K1
      cases o2 : sameB (r.g k) (s.g k)
      · rw [o2] at K2
        have HU := Lib.hid (csTo_false (r := r) (s := s) (k := k) (by rw [hD, o2, Bool.and_false]) 2 hlt)
        clear o1 o2 hD hT
        go_wp2
        refine wp_region_grow [] [] (by kernel_rfl) (by kernel_rfl) (by kernel_rfl) ?_
        apply Exists.intro
        iterate 10 (apply lh_o; kernel_rfl; kernel_rfl; kernel_rfl; (intro W hW; have hWc := Grow.cells hW; go_simp; exact ⟨OneV.mk _, Grow.refl _⟩))
        (apply lh_o; kernel_rfl; kernel_rfl; kernel_rfl; (intro W hW; go_simp; first | exact gB (K1.out _ hW) | exact gV (K1.out _ hW)))
        iterate 12 (apply lh_o; kernel_rfl; kernel_rfl; kernel_rfl; (intro W hW; have hWc := Grow.cells hW; go_simp; exact ⟨OneV.mk _, Grow.refl _⟩))
        (apply lh_o; kernel_rfl; kernel_rfl; kernel_rfl; (intro W hW; go_simp; first | exact gB (K2.out _) | exact gV (K2.out _)))
        iterate 2 (apply lh_o; kernel_rfl; kernel_rfl; kernel_rfl; (intro W hW; have hWc := Grow.cells hW; go_simp; exact ⟨OneV.mk _, Grow.refl _⟩))
        (refine lh_nil ?_; intro W hW; simp only [Act.put, List.setIfInBounds_toArray, List.set_cons_succ, List.set_cons_zero])
        go_wp2
        go_ret
        exact ⟨by rw [HU.out]; rfl, BE.out.trans (Below.mono hW BE.out.size)⟩
      rw [o2] at K2
      have HU : Hid (csTo r s (k + 1) = true) := by rw [hT, hall.out, hD, o1, o2]; rfl
      clear o1 o2 hD hT
      go_wp2
      refine wp_region_grow [] [] (by kernel_rfl) (by kernel_rfl) (by kernel_rfl) ?_
      apply Exists.intro
      iterate 10 (apply lh_o; kernel_rfl; kernel_rfl; kernel_rfl; (intro W hW; have hWc := Grow.cells hW; go_simp; exact ⟨OneV.mk _, Grow.refl _⟩))
      (apply lh_o; kernel_rfl; kernel_rfl; kernel_rfl; (intro W hW; go_simp; first | exact gB (K1.out _ hW) | exact gV (K1.out _ hW)))
      iterate 12 (apply lh_o; kernel_rfl; kernel_rfl; kernel_rfl; (intro W hW; have hWc := Grow.cells hW; go_simp; exact ⟨OneV.mk _, Grow.refl _⟩))
      (apply lh_o; kernel_rfl; kernel_rfl; kernel_rfl; (intro W hW; go_simp; first | exact gB (K2.out _) | exact gV (K2.out _)))
      iterate 2 (apply lh_o; kernel_rfl; kernel_rfl; kernel_rfl; (intro W hW; have hWc := Grow.cells hW; go_simp; exact ⟨OneV.mk _, Grow.refl _⟩))
      (refine lh_nil ?_; intro W hW; simp only [Act.put, List.setIfInBounds_toArray, List.set_cons_succ, List.set_cons_zero])
      go_wp2
      go_roundw
      case rel => exact ⟨k + 1, by omega, by go_num, HU, HBE.out.trans (Below.mono hW HBE.out.size)⟩
      case measure => simp [intOf]; omega
    · obtain rfl : k = 2 := by omega
      have HD := Lib.hid hall.out
      have hbe := HBE.out
      clear hall kA kB
      go_wp2
      go_loopw [6, 38] (fun _ i wr => ∃ k : Nat, k ≤ 4 ∧ i = .int .i64 k ∧ Hid (lsTo r s k = true) ∧ Below w0.heap.size w0 wr) (fun _ i _ => 4 - (intOf i).toNat)
      case atStart => exact ⟨0, by omega, rfl, rfl, hbe⟩
      case round =>
        clear hbe bz yA yB BE HBE
        obtain ⟨k, hk, rfl, hall, hbe⟩ := hrel
        have HBE := Lib.hid hbe
        have bz := hbe.size
        have yA : w.heap.size < wr.heap.size := by omega
        have yB : w.heap.size + 1 < wr.heap.size := by omega
        have kA := (hbe.block w.heap.size (by omega)).trans HA.out
        have kB := (hbe.block (w.heap.size + 1) (by omega)).trans HB.out
        have BE := Lib.hid (BW.out.trans (hbe.mono BW.out.size))
        clear hbe
        by_cases hlt : k < 4
        · obtain ⟨x0, x1⟩ := ll_cells kA k hlt
          obtain ⟨y0, y1⟩ := ll_cells kB k hlt
          obtain ⟨p0, p1, p2, p3, p4, p5⟩ := d_cells kA k hlt
          obtain ⟨q0, q1, q2, q3, q4, q5⟩ := d_cells kB k hlt
          have u0 := h_cells kA k hlt
          have v0 := h_cells kB k hlt
          have hT : lsTo r s (k + 1) = (lsTo r s k && lsB r s k) := rfl
          have hD : lsB r s k = (ringS (r.l k) (s.l k) && (ftS (r.d k) (s.d k) && sameB (r.h k) (s.h k))) := rfl
          have K1 : Hid (∀ W, Grow wr W → Calls Try.prog 105 #[.agg #[.slice (r.l k).a (r.l k).n (r.l k).c, .int .i64 (r.l k).i], .agg #[.slice (s.l k).a (s.l k).n (s.l k).c, .int .i64 (s.l k).i]] W (RetV (.bool (ringS (r.l k) (s.l k))) W)) := fun W hW => c_SameRing _ _ _ _ _ _ _ _ _ _ W ((ll_fs N.out k hlt).below (BE.out.trans (Below.mono hW BE.out.size)) (Nat.le_refl _)) ((ll_fs N'.out k hlt).below (BE.out.trans (Below.mono hW BE.out.size)) (Nat.le_refl _))
          have K2 : Hid (∀ W, Calls Try.prog 107 #[.agg #[.int .i64 (r.d k).k, .float .f32 (r.d k).f0, .float .f32 (r.d k).f1, .float .f32 (r.d k).f2, .float .f32 (r.d k).f3, .float .f32 (r.d k).f4], .agg #[.int .i64 (s.d k).k, .float .f32 (s.d k).f0, .float .f32 (s.d k).f1, .float .f32 (s.d k).f2, .float .f32 (s.d k).f3, .float .f32 (s.d k).f4]] W (RetV (.bool (ftS (r.d k) (s.d k))) W)) := fun W => c_SameFilter _ _ _ _ _ _ _ _ _ _ _ _ W
          have K3 : Hid (∀ W, Calls Try.prog 106 #[.float .f32 (r.h k), .float .f32 (s.h k)] W (RetB (sameB (r.h k) (s.h k)) W)) := fun W => c_SameSample _ _ W
          clear kA kB
          cases o1 : ringS (r.l k) (s.l k)
          · rw [o1] at K1
            have HU := Lib.hid (lsTo_false (r := r) (s := s) (k := k) (by rw [hD, o1]; rfl) 4 hlt)
            clear o1 hD hT
            go_wp2
            refine wp_region_grow [] [] (by kernel_rfl) (by kernel_rfl) (by kernel_rfl) ?_
            apply Exists.intro
            iterate 8 (apply lh_o; kernel_rfl; kernel_rfl; kernel_rfl; (intro W hW; have hWc := Grow.cells hW; go_simp; exact ⟨OneV.mk _, Grow.refl _⟩))
            (apply lh_o; kernel_rfl; kernel_rfl; kernel_rfl; (intro W hW; go_simp; first | exact gB (K1.out _ hW) | exact gV (K1.out _ hW)))
            iterate 2 (apply lh_o; kernel_rfl; kernel_rfl; kernel_rfl; (intro W hW; have hWc := Grow.cells hW; go_simp; exact ⟨OneV.mk _, Grow.refl _⟩))
            iterate 10 (apply lh_skip; kernel_rfl; kernel_rfl)
            iterate 2 (apply lh_o; kernel_rfl; kernel_rfl; kernel_rfl; (intro W hW; have hWc := Grow.cells hW; go_simp; exact ⟨OneV.mk _, Grow.refl _⟩))
            iterate 10 (apply lh_skip; kernel_rfl; kernel_rfl)
            (apply lh_o; kernel_rfl; kernel_rfl; kernel_rfl; (intro W hW; have hWc := Grow.cells hW; go_simp; exact ⟨OneV.mk _, Grow.refl _⟩))
            (refine lh_nil ?_; intro W hW; simp only [Act.put, List.setIfInBounds_toArray, List.set_cons_succ, List.set_cons_zero])
            go_wp2
            go_ret
            exact ⟨by rw [HD.out, HU.out]; rfl, BE.out.trans (Below.mono hW BE.out.size)⟩
          rw [o1] at K1
          cases o2 : ftS (r.d k) (s.d k)
          · rw [o2] at K2
            have HU := Lib.hid (lsTo_false (r := r) (s := s) (k := k) (by rw [hD, o1, o2]; rfl) 4 hlt)
            clear o1 o2 hD hT
            go_wp2
            refine wp_region_grow [] [] (by kernel_rfl) (by kernel_rfl) (by kernel_rfl) ?_
            apply Exists.intro
            iterate 8 (apply lh_o; kernel_rfl; kernel_rfl; kernel_rfl; (intro W hW; have hWc := Grow.cells hW; go_simp; exact ⟨OneV.mk _, Grow.refl _⟩))
            (apply lh_o; kernel_rfl; kernel_rfl; kernel_rfl; (intro W hW; go_simp; first | exact gB (K1.out _ hW) | exact gV (K1.out _ hW)))
            iterate 10 (apply lh_o; kernel_rfl; kernel_rfl; kernel_rfl; (intro W hW; have hWc := Grow.cells hW; go_simp; exact ⟨OneV.mk _, Grow.refl _⟩))
            (apply lh_o; kernel_rfl; kernel_rfl; kernel_rfl; (intro W hW; go_simp; first | exact gB (K2.out _) | exact gV (K2.out _)))
            iterate 3 (apply lh_o; kernel_rfl; kernel_rfl; kernel_rfl; (intro W hW; have hWc := Grow.cells hW; go_simp; exact ⟨OneV.mk _, Grow.refl _⟩))
            iterate 10 (apply lh_skip; kernel_rfl; kernel_rfl)
            (apply lh_o; kernel_rfl; kernel_rfl; kernel_rfl; (intro W hW; have hWc := Grow.cells hW; go_simp; exact ⟨OneV.mk _, Grow.refl _⟩))
            (refine lh_nil ?_; intro W hW; simp only [Act.put, List.setIfInBounds_toArray, List.set_cons_succ, List.set_cons_zero])
            go_wp2
            go_ret
            exact ⟨by rw [HD.out, HU.out]; rfl, BE.out.trans (Below.mono hW BE.out.size)⟩
          rw [o2] at K2
          cases o3 : sameB (r.h k) (s.h k)
          · rw [o3] at K3
            have HU := Lib.hid (lsTo_false (r := r) (s := s) (k := k) (by rw [hD, o1, o2, o3]; rfl) 4 hlt)
            clear o1 o2 o3 hD hT
            go_wp2
            refine wp_region_grow [] [] (by kernel_rfl) (by kernel_rfl) (by kernel_rfl) ?_
            apply Exists.intro
            iterate 8 (apply lh_o; kernel_rfl; kernel_rfl; kernel_rfl; (intro W hW; have hWc := Grow.cells hW; go_simp; exact ⟨OneV.mk _, Grow.refl _⟩))
            (apply lh_o; kernel_rfl; kernel_rfl; kernel_rfl; (intro W hW; go_simp; first | exact gB (K1.out _ hW) | exact gV (K1.out _ hW)))
            iterate 10 (apply lh_o; kernel_rfl; kernel_rfl; kernel_rfl; (intro W hW; have hWc := Grow.cells hW; go_simp; exact ⟨OneV.mk _, Grow.refl _⟩))
            (apply lh_o; kernel_rfl; kernel_rfl; kernel_rfl; (intro W hW; go_simp; first | exact gB (K2.out _) | exact gV (K2.out _)))
            iterate 11 (apply lh_o; kernel_rfl; kernel_rfl; kernel_rfl; (intro W hW; have hWc := Grow.cells hW; go_simp; exact ⟨OneV.mk _, Grow.refl _⟩))
            (apply lh_o; kernel_rfl; kernel_rfl; kernel_rfl; (intro W hW; go_simp; first | exact gB (K3.out _) | exact gV (K3.out _)))
            iterate 2 (apply lh_o; kernel_rfl; kernel_rfl; kernel_rfl; (intro W hW; have hWc := Grow.cells hW; go_simp; exact ⟨OneV.mk _, Grow.refl _⟩))
            (refine lh_nil ?_; intro W hW; simp only [Act.put, List.setIfInBounds_toArray, List.set_cons_succ, List.set_cons_zero])
            go_wp2
            go_ret
            exact ⟨by rw [HD.out, HU.out]; rfl, BE.out.trans (Below.mono hW BE.out.size)⟩
          rw [o3] at K3
          have HU : Hid (lsTo r s (k + 1) = true) := by rw [hT, hall.out, hD, o1, o2, o3]; rfl
          clear o1 o2 o3 hD hT
          go_wp2
          refine wp_region_grow [] [] (by kernel_rfl) (by kernel_rfl) (by kernel_rfl) ?_
          apply Exists.intro
          iterate 8 (apply lh_o; kernel_rfl; kernel_rfl; kernel_rfl; (intro W hW; have hWc := Grow.cells hW; go_simp; exact ⟨OneV.mk _, Grow.refl _⟩))
          (apply lh_o; kernel_rfl; kernel_rfl; kernel_rfl; (intro W hW; go_simp; first | exact gB (K1.out _ hW) | exact gV (K1.out _ hW)))
          iterate 10 (apply lh_o; kernel_rfl; kernel_rfl; kernel_rfl; (intro W hW; have hWc := Grow.cells hW; go_simp; exact ⟨OneV.mk _, Grow.refl _⟩))
          (apply lh_o; kernel_rfl; kernel_rfl; kernel_rfl; (intro W hW; go_simp; first | exact gB (K2.out _) | exact gV (K2.out _)))
          iterate 11 (apply lh_o; kernel_rfl; kernel_rfl; kernel_rfl; (intro W hW; have hWc := Grow.cells hW; go_simp; exact ⟨OneV.mk _, Grow.refl _⟩))
          (apply lh_o; kernel_rfl; kernel_rfl; kernel_rfl; (intro W hW; go_simp; first | exact gB (K3.out _) | exact gV (K3.out _)))
          iterate 2 (apply lh_o; kernel_rfl; kernel_rfl; kernel_rfl; (intro W hW; have hWc := Grow.cells hW; go_simp; exact ⟨OneV.mk _, Grow.refl _⟩))
          (refine lh_nil ?_; intro W hW; simp only [Act.put, List.setIfInBounds_toArray, List.set_cons_succ, List.set_cons_zero])
          go_wp2
          go_roundw
          case rel => exact ⟨k + 1, by omega, by go_num, HU, HBE.out.trans (Below.mono hW HBE.out.size)⟩
          case measure => simp [intOf]; omega
        · obtain rfl : k = 4 := by omega
          have HE := Lib.hid hall.out
          clear hall
          have a0 : wr.cell? ⟨w.heap.size, 0, none⟩ = some (.slice r.e.a r.e.n r.e.c) := blk_cell kA rfl
          have c0 : wr.cell? ⟨w.heap.size + 1, 0, none⟩ = some (.slice s.e.a s.e.n s.e.c) := blk_cell kB rfl
          have a1 : wr.cell? ⟨w.heap.size, 1, none⟩ = some (.int .i64 r.e.i) := blk_cell kA rfl
          have c1 : wr.cell? ⟨w.heap.size + 1, 1, none⟩ = some (.int .i64 s.e.i) := blk_cell kB rfl
          have a2 : wr.cell? ⟨w.heap.size, 2, none⟩ = some (.slice r.ta r.tn r.tc) := blk_cell kA rfl
          have c2 : wr.cell? ⟨w.heap.size + 1, 2, none⟩ = some (.slice s.ta s.tn s.tc) := blk_cell kB rfl
          have a45 : wr.cell? ⟨w.heap.size, 45, none⟩ = some (.float .f32 r.dry) := blk_cell kA rfl
          have c45 : wr.cell? ⟨w.heap.size + 1, 45, none⟩ = some (.float .f32 s.dry) := blk_cell kB rfl
          have a46 : wr.cell? ⟨w.heap.size, 46, none⟩ = some (.float .f32 r.wet) := blk_cell kA rfl
          have c46 : wr.cell? ⟨w.heap.size + 1, 46, none⟩ = some (.float .f32 s.wet) := blk_cell kB rfl
          clear kA kB
          go_wp2_with fail
          refine (c_EqualFuncT _ _ _ _ _ _ r.ts s.ts _ (N.out.t.below BE.out (Nat.le_refl _)) (N'.out.t.below BE.out (Nat.le_refl _))).mono ?_
          rintro e w2 ⟨rfl, hb2⟩
          obtain ⟨hc2, hf2, hz2⟩ := bcell hb2
          have b2 := BE.out.trans (hb2.mono BE.out.size)
          have K1 : Hid (∀ W, Below w.heap.size w W → Calls Try.prog 105 #[.agg #[.slice r.e.a r.e.n r.e.c, .int .i64 r.e.i], .agg #[.slice s.e.a s.e.n s.e.c, .int .i64 s.e.i]] W (RetV (.bool (ringS r.e s.e)) W)) := fun W hW => c_SameRing _ _ _ _ _ _ _ _ _ _ W (N.out.q0.below hW (Nat.le_refl _)) (N'.out.q0.below hW (Nat.le_refl _))
          have K2 : Hid (∀ W, Calls Try.prog 106 #[.float .f32 r.dry, .float .f32 s.dry] W (RetB (sameB r.dry s.dry) W)) := fun W => c_SameSample _ _ W
          have K3 : Hid (∀ W, Calls Try.prog 106 #[.float .f32 r.wet, .float .f32 s.wet] W (RetB (sameB r.wet s.wet) W)) := fun W => c_SameSample _ _ W
          generalize hq0 : (decide ((r.tn : Int) = s.tn) && tapsTo r.ts s.ts r.tn) = Q0
          have HQ0 := Lib.hid hq0
          have zA : w.heap.size < w2.heap.size := Nat.lt_of_lt_of_le yA hb2.size
          have zB : w.heap.size + 1 < w2.heap.size := Nat.lt_of_lt_of_le yB hb2.size
          clear hq0 hb2
          cases Q0
          · go_wp2
            go_ret
            exact ⟨by rw [HD.out, HE.out, HQ0.out]; rfl, b2⟩
          cases o1 : ringS r.e s.e
          · rw [o1] at K1
            have O1 := Lib.hid o1
            clear o1
            go_wp2_with fail
            refine (K1.out _ b2).mono ?_
            rintro e w3 ⟨rfl, hb3⟩
            go_wp2
            go_ret
            exact ⟨by rw [HD.out, HE.out, HQ0.out, O1.out]; rfl, b2.trans (hb3.mono b2.size)⟩
          rw [o1] at K1
          have O1 := Lib.hid o1
          clear o1
          cases o2 : sameB r.dry s.dry
          · rw [o2] at K2
            have O2 := Lib.hid o2
            clear o2
            go_wp2_with fail
            refine (K1.out _ b2).mono ?_
            rintro e w3 ⟨rfl, hb3⟩
            obtain ⟨hc3, hf3, hz3⟩ := bcell hb3
            have b3 := b2.trans (hb3.mono b2.size)
            go_wp2_with fail
            refine (K2.out _).mono ?_
            rintro e w' ⟨rfl, d2, rfl⟩
            go_wp2
            go_ret
            exact ⟨by rw [HD.out, HE.out, HQ0.out, O1.out, O2.out]; rfl, by (repeat (first | (with_reducible refine Below.drewN ?_) | (with_reducible refine Below.drew ?_) | ((with_reducible refine Below.alloc ?_ ?_ _); rotate_left; (first | omega | (simp <;> omega))) | ((with_reducible refine Below.setCell ?_ ?_ _); rotate_left; (first | omega | (simp <;> omega))) | (with_reducible exact Below.refl _ _) | (with_reducible assumption)))⟩
          rw [o2] at K2
          have O2 := Lib.hid o2
          clear o2
          go_wp2_with fail
          refine (K1.out _ b2).mono ?_
          rintro e w3 ⟨rfl, hb3⟩
          obtain ⟨hc3, hf3, hz3⟩ := bcell hb3
          have b3 := b2.trans (hb3.mono b2.size)
          go_wp2_with fail
          refine (K2.out _).mono ?_
          rintro e w' ⟨rfl, d2, rfl⟩
          go_wp2_with fail
          refine (K3.out _).mono ?_
          rintro e w' ⟨rfl, d3, rfl⟩
          go_wp2
          go_ret
          exact ⟨by rw [HD.out, HE.out, HQ0.out, O1.out, O2.out]; rfl, by (repeat (first | (with_reducible refine Below.drewN ?_) | (with_reducible refine Below.drew ?_) | ((with_reducible refine Below.alloc ?_ ?_ _); rotate_left; (first | omega | (simp <;> omega))) | ((with_reducible refine Below.setCell ?_ ?_ _); rotate_left; (first | omega | (simp <;> omega))) | (with_reducible exact Below.refl _ _) | (with_reducible assumption)))⟩
end Go.Proofs.Ytfhegjjgfaeinaa
