
/-
Are rooms the same: the reference.
-/
import Derived.Test.YtfhegjjgfaeinaaYv
import Derived.Test.YtfhegjjgfaeinaaSb
namespace Go.Proofs.Ytfhegjjgfaeinaa
open Go Go.RowKit Fl
def ringS (p q : Rg) : Bool := sameR p.n p.i p.xs q.n q.i q.xs
def combS (p : Rg) (x : Nat) (q : Rg) (y : Nat) : Bool := ringS p q && sameB x y
def tapS (t u : Int × Nat) : Bool := (t.1 == u.1) && sameB t.2 u.2
def tapsTo (ts us : List (Int × Nat)) : Nat → Bool
  | 0 => true
  | k + 1 => tapsTo ts us k && tapS (tat ts k) (tat us k)
theorem tapsTo_false {ts us : List (Int × Nat)} {k : Nat} (h : tapS (tat ts k) (tat us k) = false) : ∀ n, k < n → tapsTo ts us n = false
  | 0, hn => absurd hn (by omega)
  | n + 1, hn => by
    by_cases e : k = n
    · subst e; rw [tapsTo, h, Bool.and_false]
    · rw [tapsTo, tapsTo_false h n (by omega), Bool.false_and]
def ftS (d e : Ft) : Bool := sameF d.k [d.f0, d.f1, d.f2] [d.f3, d.f4] e.k [e.f0, e.f1, e.f2] [e.f3, e.f4]
def Rv.h (r : Rv) : Nat → Nat
  | 0 => r.h0
  | 1 => r.h1
  | 2 => r.h2
  | _ => r.h3
def dhTo (r s : Rv) : Nat → Bool
  | 0 => true
  | k + 1 => dhTo r s k && (ftS (r.d k) (s.d k) && sameB (r.h k) (s.h k))
theorem dhTo_false {r s : Rv} {k : Nat} (h : (ftS (r.d k) (s.d k) && sameB (r.h k) (s.h k)) = false) : ∀ n, k < n → dhTo r s n = false
  | 0, hn => absurd hn (by omega)
  | n + 1, hn => by
    by_cases e : k = n
    · subst e; rw [dhTo, h, Bool.and_false]
    · rw [dhTo, dhTo_false h n (by omega), Bool.false_and]
def roomS (r s : Rv) : Bool :=
  ringS r.e s.e && (decide ((r.tn : Int) = s.tn) && (combS r.c0 r.g0 s.c0 s.g0 && (combS r.c1 r.g1 s.c1 s.g1 && (rgsSame [r.l0, r.l1, r.l2, r.l3] [s.l0, s.l1, s.l2, s.l3] 4 && (tapsTo r.ts s.ts r.tn && (dhTo r s 4 && (sameB r.dry s.dry && sameB r.wet s.wet)))))))
theorem roomS_strip (r s : Rv) : roomS r.strip s.strip = roomS r s := rfl
theorem h_cells {w : World} {b : Nat} {r : Rv} {T : TypeId} (kb : w.heap[b]? = some (.cells r.cells T)) : ∀ k, k < 4 → w.cell? ⟨b, 41 + k, none⟩ = some (.float .f32 (r.h k))
  | 0, _ => blk_cell kb rfl
  | 1, _ => blk_cell kb rfl
  | 2, _ => blk_cell kb rfl
  | 3, _ => blk_cell kb rfl
  | k + 4, h => absurd h (by omega)
theorem c_same1 (W : World) (g g2 : Nat) (p q : Rg) (hp : FS W p.a p.n p.c p.xs) (hq : FS W q.a q.n q.c q.xs) {T T2 : TypeId} (hg : W.heap[g]? = some (.cells #[.slice p.a p.n p.c, .int .i64 p.i] T)) (hg2 : W.heap[g2]? = some (.cells #[.slice q.a q.n q.c, .int .i64 q.i] T2)) :
    Calls Try.prog 142 #[.slice (some ⟨g, 0, none⟩) 1 1, .slice (some ⟨g2, 0, none⟩) 1 1] W (RetB (ringS p q) W) :=
  c_l04SameRings g 0 g2 0 [p] [q] 1 1 1 W (by omega) (fun j hj => by
    obtain rfl : j = 0 := Nat.lt_one_iff.1 hj
    exact ⟨cell_block hg _, cell_block hg _, hp⟩) (fun j hj => by
    obtain rfl : j = 0 := Nat.lt_one_iff.1 hj
    exact ⟨cell_block hg2 _, cell_block hg2 _, hq⟩)
theorem c_l02SameD {w : World} {b b2 : Nat} {r s : Rv} {T T2 : TypeId} (kb : w.heap[b]? = some (.cells r.cells T)) (kb2 : w.heap[b2]? = some (.cells s.cells T2)) {k : Nat} (hk : k < 4) :
    Calls Try.prog 146 #[.pointer (some ⟨b, 17 + k * 6, none⟩), .pointer (some ⟨b2, 17 + k * 6, none⟩)] w (RetB (ftS (r.d k) (s.d k)) w) := by
  obtain ⟨h0, h1, h2, h3, h4, h5⟩ := d_cells kb k hk
  obtain ⟨j0, j1, j2, j3, j4, j5⟩ := d_cells kb2 k hk
  exact c_l02Same b (17 + k * 6) b2 (17 + k * 6) _ _ _ _ _ _ w h0 (three _ h1 h2 h3) (two _ h4 h5) j0 (three _ j1 j2 j3) (two _ j4 j5)
set_option maxHeartbeats 1000000 in
theorem c_l06SameComb (b o b2 o2 : Nat) (p q : Rg) (x y : Nat) (w : World) (hb : b < w.heap.size) (hb2 : b2 < w.heap.size) (hp : FS w p.a p.n p.c p.xs) (hq : FS w q.a q.n q.c q.xs)
    (e0 : w.cell? ⟨b, o, none⟩ = some (.slice p.a p.n p.c)) (e1 : w.cell? ⟨b, o + 1, none⟩ = some (.int .i64 p.i)) (e2 : w.cell? ⟨b, o + 2, none⟩ = some (.float .f32 x))
    (f0 : w.cell? ⟨b2, o2, none⟩ = some (.slice q.a q.n q.c)) (f1 : w.cell? ⟨b2, o2 + 1, none⟩ = some (.int .i64 q.i)) (f2 : w.cell? ⟨b2, o2 + 2, none⟩ = some (.float .f32 y)) :
    Calls Try.prog 143 #[.pointer (some ⟨b, o, none⟩), .pointer (some ⟨b2, o2, none⟩)] w (RetV (.bool (combS p x q y)) w) := by
  have K1 : Hid (∀ W g g2, Below w.heap.size w W → W.heap[g]? = some (.cells #[.slice p.a p.n p.c, .int .i64 p.i] 42) → W.heap[g2]? = some (.cells #[.slice q.a q.n q.c, .int .i64 q.i] 42) → Calls Try.prog 142 #[.slice (some ⟨g, 0, none⟩) 1 1, .slice (some ⟨g2, 0, none⟩) 1 1] W (RetB (ringS p q) W)) := fun W g g2 hW hg hg2 => c_same1 W g g2 p q (hp.below hW (Nat.le_refl _)) (hq.below hW (Nat.le_refl _)) hg hg2
  have K2 : Hid (∀ W, Calls Try.prog 145 #[.float .f32 x, .float .f32 y] W (RetB (sameB x y) W)) := fun W => c_l01Same _ _ W
  rw [show combS p x q y = (ringS p q && sameB x y) from rfl]
  clear hp hq
  cases z : ringS p q
  · rw [z] at K1
    clear z
    go_enter Try.func143, Try.ntmps143
    go_wp2
    refine wp_region_grow [10] [4, 9] (by kernel_rfl) (by kernel_rfl) (by kernel_rfl) ?_
    apply Exists.intro
    iterate 4 (apply lh_o; kernel_rfl; kernel_rfl; kernel_rfl; (intro W hW; have hWc := Grow.cells hW; go_simp; exact ⟨OneV.mk _, Grow.refl _⟩))
    (apply lh_new; kernel_rfl; kernel_rfl; kernel_rfl; (intro W hW; have hWc := Grow.cells hW; go_simp; exact ⟨NewAt.mk _ _ _ _, Grow.alloc _ _⟩); intro g hfr)
    iterate 4 (apply lh_o; kernel_rfl; kernel_rfl; kernel_rfl; (intro W hW; have hWc := Grow.cells hW; go_simp; exact ⟨OneV.mk _, Grow.refl _⟩))
    (apply lh_new; kernel_rfl; kernel_rfl; kernel_rfl; (intro W hW; have hWc := Grow.cells hW; go_simp; exact ⟨NewAt.mk _ _ _ _, Grow.alloc _ _⟩); intro g hfr)
    (apply lh_h; kernel_rfl; kernel_rfl; kernel_rfl; (intro W hW; go_simp; first | exact gB (K1.out _ _ _ hW.1.1 hW.1.2 hW.2) | exact gV (K1.out _ _ _ hW.1.1 hW.1.2 hW.2)))
    (apply lh_o; kernel_rfl; kernel_rfl; kernel_rfl; (intro W hW; have hWc := Grow.cells hW; go_simp; exact ⟨OneV.mk _, Grow.refl _⟩))
    iterate 9 (apply lh_skip; kernel_rfl; kernel_rfl)
    iterate 2 (apply lh_o; kernel_rfl; kernel_rfl; kernel_rfl; (intro W hW; have hWc := Grow.cells hW; go_simp; exact ⟨OneV.mk _, Grow.refl _⟩))
    (refine lh_nil ?_; intro W hW; simp only [Act.put, List.setIfInBounds_toArray, List.set_cons_succ, List.set_cons_zero])
    go_wp2
    go_ret
    exact ⟨rfl, hW.1.1⟩
  rw [z] at K1
  clear z
  go_enter Try.func143, Try.ntmps143
  go_wp2
  refine wp_region_grow [10] [4, 9] (by kernel_rfl) (by kernel_rfl) (by kernel_rfl) ?_
  apply Exists.intro
  iterate 4 (apply lh_o; kernel_rfl; kernel_rfl; kernel_rfl; (intro W hW; have hWc := Grow.cells hW; go_simp; exact ⟨OneV.mk _, Grow.refl _⟩))
  (apply lh_new; kernel_rfl; kernel_rfl; kernel_rfl; (intro W hW; have hWc := Grow.cells hW; go_simp; exact ⟨NewAt.mk _ _ _ _, Grow.alloc _ _⟩); intro g hfr)
  iterate 4 (apply lh_o; kernel_rfl; kernel_rfl; kernel_rfl; (intro W hW; have hWc := Grow.cells hW; go_simp; exact ⟨OneV.mk _, Grow.refl _⟩))
  (apply lh_new; kernel_rfl; kernel_rfl; kernel_rfl; (intro W hW; have hWc := Grow.cells hW; go_simp; exact ⟨NewAt.mk _ _ _ _, Grow.alloc _ _⟩); intro g hfr)
  (apply lh_h; kernel_rfl; kernel_rfl; kernel_rfl; (intro W hW; go_simp; first | exact gB (K1.out _ _ _ hW.1.1 hW.1.2 hW.2) | exact gV (K1.out _ _ _ hW.1.1 hW.1.2 hW.2)))
  iterate 9 (apply lh_o; kernel_rfl; kernel_rfl; kernel_rfl; (intro W hW; have hWc := Grow.cells hW; go_simp; exact ⟨OneV.mk _, Grow.refl _⟩))
  (apply lh_o; kernel_rfl; kernel_rfl; kernel_rfl; (intro W hW; go_simp; first | exact gB (K2.out _) | exact gV (K2.out _)))
  iterate 2 (apply lh_o; kernel_rfl; kernel_rfl; kernel_rfl; (intro W hW; have hWc := Grow.cells hW; go_simp; exact ⟨OneV.mk _, Grow.refl _⟩))
  (refine lh_nil ?_; intro W hW; simp only [Act.put, List.setIfInBounds_toArray, List.set_cons_succ, List.set_cons_zero])
  go_wp2
  go_ret
  exact ⟨rfl, hW.1.1⟩
set_option maxRecDepth 100000 in
set_option maxHeartbeats 4000000 in
theorem c_l06Same (b b2 : Nat) (r s : Rv) (w : World) {T T2 : TypeId} (ka : w.heap[b]? = some (.cells r.cells T)) (kc : w.heap[b2]? = some (.cells s.cells T2)) (h : RvM w r) (h' : RvM w s) :
    Calls Try.prog 98 #[.pointer (some ⟨b, 0, none⟩), .pointer (some ⟨b2, 0, none⟩)] w (RetV (.bool (roomS r s)) w) := by
  have N := Lib.hid h
  have N' := Lib.hid h'
  have hb := (Array.getElem?_eq_some_iff.1 ka).1
  have hb2 := (Array.getElem?_eq_some_iff.1 kc).1
  have KA : Hid (∀ W, Below w.heap.size w W → W.heap[b]? = some (.cells r.cells T)) := fun W hW => (hW.block b hb).trans ka
  have KC : Hid (∀ W, Below w.heap.size w W → W.heap[b2]? = some (.cells s.cells T2)) := fun W hW => (hW.block b2 hb2).trans kc
  have K1 : Hid (∀ W g g2, Below w.heap.size w W → W.heap[g]? = some (.cells #[.slice r.e.a r.e.n r.e.c, .int .i64 r.e.i] 42) → W.heap[g2]? = some (.cells #[.slice s.e.a s.e.n s.e.c, .int .i64 s.e.i] 42) → Calls Try.prog 142 #[.slice (some ⟨g, 0, none⟩) 1 1, .slice (some ⟨g2, 0, none⟩) 1 1] W (RetB (ringS r.e s.e) W)) := fun W g g2 hW hg hg2 => c_same1 W g g2 r.e s.e (h.q0.below hW (Nat.le_refl _)) (h'.q0.below hW (Nat.le_refl _)) hg hg2
  have K3 : Hid (∀ W, Below w.heap.size w W → Calls Try.prog 143 #[.pointer (some ⟨b, 3, none⟩), .pointer (some ⟨b2, 3, none⟩)] W (RetV (.bool (combS r.c0 r.g0 s.c0 s.g0)) W)) := fun W hW => c_l06SameComb b 3 b2 3 r.c0 s.c0 r.g0 s.g0 W (Nat.lt_of_lt_of_le hb hW.size) (Nat.lt_of_lt_of_le hb2 hW.size) (h.q1.below hW (Nat.le_refl _)) (h'.q1.below hW (Nat.le_refl _)) (blk_cell (KA.out W hW) rfl) (blk_cell (KA.out W hW) rfl) (blk_cell (KA.out W hW) rfl) (blk_cell (KC.out W hW) rfl) (blk_cell (KC.out W hW) rfl) (blk_cell (KC.out W hW) rfl)
  have K4 : Hid (∀ W, Below w.heap.size w W → Calls Try.prog 143 #[.pointer (some ⟨b, 6, none⟩), .pointer (some ⟨b2, 6, none⟩)] W (RetV (.bool (combS r.c1 r.g1 s.c1 s.g1)) W)) := fun W hW => c_l06SameComb b 6 b2 6 r.c1 s.c1 r.g1 s.g1 W (Nat.lt_of_lt_of_le hb hW.size) (Nat.lt_of_lt_of_le hb2 hW.size) (h.q2.below hW (Nat.le_refl _)) (h'.q2.below hW (Nat.le_refl _)) (blk_cell (KA.out W hW) rfl) (blk_cell (KA.out W hW) rfl) (blk_cell (KA.out W hW) rfl) (blk_cell (KC.out W hW) rfl) (blk_cell (KC.out W hW) rfl) (blk_cell (KC.out W hW) rfl)
  have K5 : Hid (∀ W, Below w.heap.size w W → Calls Try.prog 144 #[.pointer (some ⟨b, 0, none⟩)] W (fun e w' => ∃ g, e = .returned (.slice (some ⟨g, 0, none⟩) 4 4) ∧ Below W.heap.size W w' ∧ w'.heap[g]? = some (.cells #[.slice r.l0.a r.l0.n r.l0.c, .int .i64 r.l0.i, .slice r.l1.a r.l1.n r.l1.c, .int .i64 r.l1.i, .slice r.l2.a r.l2.n r.l2.c, .int .i64 r.l2.i, .slice r.l3.a r.l3.n r.l3.c, .int .i64 r.l3.i] 42))) := fun W hW => c_l06Loops b r W (KA.out W hW)
  have K6 : Hid (∀ W, Below w.heap.size w W → Calls Try.prog 144 #[.pointer (some ⟨b2, 0, none⟩)] W (fun e w' => ∃ g, e = .returned (.slice (some ⟨g, 0, none⟩) 4 4) ∧ Below W.heap.size W w' ∧ w'.heap[g]? = some (.cells #[.slice s.l0.a s.l0.n s.l0.c, .int .i64 s.l0.i, .slice s.l1.a s.l1.n s.l1.c, .int .i64 s.l1.i, .slice s.l2.a s.l2.n s.l2.c, .int .i64 s.l2.i, .slice s.l3.a s.l3.n s.l3.c, .int .i64 s.l3.i] 42))) := fun W hW => c_l06Loops b2 s W (KC.out W hW)
  have K7 : Hid (∀ W g g2, Below w.heap.size w W → W.heap[g]? = some (.cells #[.slice r.l0.a r.l0.n r.l0.c, .int .i64 r.l0.i, .slice r.l1.a r.l1.n r.l1.c, .int .i64 r.l1.i, .slice r.l2.a r.l2.n r.l2.c, .int .i64 r.l2.i, .slice r.l3.a r.l3.n r.l3.c, .int .i64 r.l3.i] 42) → W.heap[g2]? = some (.cells #[.slice s.l0.a s.l0.n s.l0.c, .int .i64 s.l0.i, .slice s.l1.a s.l1.n s.l1.c, .int .i64 s.l1.i, .slice s.l2.a s.l2.n s.l2.c, .int .i64 s.l2.i, .slice s.l3.a s.l3.n s.l3.c, .int .i64 s.l3.i] 42) → Calls Try.prog 142 #[.slice (some ⟨g, 0, none⟩) 4 4, .slice (some ⟨g2, 0, none⟩) 4 4] W (RetB (rgsSame [r.l0, r.l1, r.l2, r.l3] [s.l0, s.l1, s.l2, s.l3] 4) W)) := fun W g g2 hW hg hg2 => c_l04SameRings g 0 g2 0 _ _ 4 4 4 W (by omega) (c_rings4 W g r (h.q3.below hW (Nat.le_refl _)) (h.q4.below hW (Nat.le_refl _)) (h.q5.below hW (Nat.le_refl _)) (h.q6.below hW (Nat.le_refl _)) hg) (c_rings4 W g2 s (h'.q3.below hW (Nat.le_refl _)) (h'.q4.below hW (Nat.le_refl _)) (h'.q5.below hW (Nat.le_refl _)) (h'.q6.below hW (Nat.le_refl _)) hg2)
  have mt : r.tn ≤ 9223372036854775807 := Nat.le_trans h.t.cap h.t.big
  have mt2 : s.tn ≤ 9223372036854775807 := Nat.le_trans h'.t.cap h'.t.big
  have a0 : w.cell? ⟨b, 0, none⟩ = some (.slice r.e.a r.e.n r.e.c) := blk_cell ka rfl
  have c0 : w.cell? ⟨b2, 0, none⟩ = some (.slice s.e.a s.e.n s.e.c) := blk_cell kc rfl
  have a1 : w.cell? ⟨b, 1, none⟩ = some (.int .i64 r.e.i) := blk_cell ka rfl
  have c1 : w.cell? ⟨b2, 1, none⟩ = some (.int .i64 s.e.i) := blk_cell kc rfl
  have a2 : w.cell? ⟨b, 2, none⟩ = some (.slice r.ta r.tn r.tc) := blk_cell ka rfl
  have c2 : w.cell? ⟨b2, 2, none⟩ = some (.slice s.ta s.tn s.tc) := blk_cell kc rfl
  have HKA := Lib.hid ka
  have HKC := Lib.hid kc
  clear h h' ka kc
  cases f1 : ringS r.e s.e
  · have e : roomS r s = false := by unfold roomS; rw [f1]; simp
    rw [e]
    rw [f1] at K1
    clear e  f1
    go_enter Try.func98, Try.ntmps98
    go_wp2
    refine wp_region_grow [10] [4, 9] (by kernel_rfl) (by kernel_rfl) (by kernel_rfl) ?_
    apply Exists.intro
    iterate 4 (apply lh_o; kernel_rfl; kernel_rfl; kernel_rfl; (intro W hW; have hWc := Grow.cells hW; go_simp; exact ⟨OneV.mk _, Grow.refl _⟩))
    (apply lh_new; kernel_rfl; kernel_rfl; kernel_rfl; (intro W hW; have hWc := Grow.cells hW; go_simp; exact ⟨NewAt.mk _ _ _ _, Grow.alloc _ _⟩); intro g hfr)
    iterate 4 (apply lh_o; kernel_rfl; kernel_rfl; kernel_rfl; (intro W hW; have hWc := Grow.cells hW; go_simp; exact ⟨OneV.mk _, Grow.refl _⟩))
    (apply lh_new; kernel_rfl; kernel_rfl; kernel_rfl; (intro W hW; have hWc := Grow.cells hW; go_simp; exact ⟨NewAt.mk _ _ _ _, Grow.alloc _ _⟩); intro g hfr)
    (apply lh_h; kernel_rfl; kernel_rfl; kernel_rfl; (intro W hW; go_simp; first | exact gB (K1.out _ _ _ hW.1.1 hW.1.2 hW.2) | exact gV (K1.out _ _ _ hW.1.1 hW.1.2 hW.2)))
    iterate 2 (apply lh_o; kernel_rfl; kernel_rfl; kernel_rfl; (intro W hW; have hWc := Grow.cells hW; go_simp; exact ⟨OneV.mk _, Grow.refl _⟩))
    iterate 11 (apply lh_skip; kernel_rfl; kernel_rfl)
    iterate 2 (apply lh_o; kernel_rfl; kernel_rfl; kernel_rfl; (intro W hW; have hWc := Grow.cells hW; go_simp; exact ⟨OneV.mk _, Grow.refl _⟩))
    iterate 10 (apply lh_skip; kernel_rfl; kernel_rfl)
    iterate 2 (apply lh_o; kernel_rfl; kernel_rfl; kernel_rfl; (intro W hW; have hWc := Grow.cells hW; go_simp; exact ⟨OneV.mk _, Grow.refl _⟩))
    iterate 10 (apply lh_skip; kernel_rfl; kernel_rfl)
    iterate 2 (apply lh_o; kernel_rfl; kernel_rfl; kernel_rfl; (intro W hW; have hWc := Grow.cells hW; go_simp; exact ⟨OneV.mk _, Grow.refl _⟩))
    iterate 6 (apply lh_skip; kernel_rfl; kernel_rfl)
    (apply lh_o; kernel_rfl; kernel_rfl; kernel_rfl; (intro W hW; have hWc := Grow.cells hW; go_simp; exact ⟨OneV.mk _, Grow.refl _⟩))
    (refine lh_nil ?_; intro W hW; simp only [Act.put, List.setIfInBounds_toArray, List.set_cons_succ, List.set_cons_zero])
    go_wp2
    go_ret
    exact ⟨rfl, hW.1.1⟩
  rw [f1] at K1
  by_cases f2 : (r.tn : Int) = s.tn
  rotate_left
  · have e : roomS r s = false := by unfold roomS; rw [decide_eq_false f2]; simp
    rw [e]
    have f2' : ((r.tn : Int) != (s.tn : Int)) = true := by rw [bne_iff_ne]; exact f2
    clear e f1 f2
    go_enter Try.func98, Try.ntmps98
    go_wp2
    refine wp_region_grow [10] [4, 9] (by kernel_rfl) (by kernel_rfl) (by kernel_rfl) ?_
    apply Exists.intro
    iterate 4 (apply lh_o; kernel_rfl; kernel_rfl; kernel_rfl; (intro W hW; have hWc := Grow.cells hW; go_simp; exact ⟨OneV.mk _, Grow.refl _⟩))
    (apply lh_new; kernel_rfl; kernel_rfl; kernel_rfl; (intro W hW; have hWc := Grow.cells hW; go_simp; exact ⟨NewAt.mk _ _ _ _, Grow.alloc _ _⟩); intro g hfr)
    iterate 4 (apply lh_o; kernel_rfl; kernel_rfl; kernel_rfl; (intro W hW; have hWc := Grow.cells hW; go_simp; exact ⟨OneV.mk _, Grow.refl _⟩))
    (apply lh_new; kernel_rfl; kernel_rfl; kernel_rfl; (intro W hW; have hWc := Grow.cells hW; go_simp; exact ⟨NewAt.mk _ _ _ _, Grow.alloc _ _⟩); intro g hfr)
    (apply lh_h; kernel_rfl; kernel_rfl; kernel_rfl; (intro W hW; go_simp; first | exact gB (K1.out _ _ _ hW.1.1 hW.1.2 hW.2) | exact gV (K1.out _ _ _ hW.1.1 hW.1.2 hW.2)))
    iterate 15 (apply lh_o; kernel_rfl; kernel_rfl; kernel_rfl; (intro W hW; have hWc := Grow.cells hW; go_simp; exact ⟨OneV.mk _, Grow.refl _⟩))
    iterate 10 (apply lh_skip; kernel_rfl; kernel_rfl)
    iterate 2 (apply lh_o; kernel_rfl; kernel_rfl; kernel_rfl; (intro W hW; have hWc := Grow.cells hW; go_simp; exact ⟨OneV.mk _, Grow.refl _⟩))
    iterate 10 (apply lh_skip; kernel_rfl; kernel_rfl)
    iterate 2 (apply lh_o; kernel_rfl; kernel_rfl; kernel_rfl; (intro W hW; have hWc := Grow.cells hW; go_simp; exact ⟨OneV.mk _, Grow.refl _⟩))
    iterate 6 (apply lh_skip; kernel_rfl; kernel_rfl)
    (apply lh_o; kernel_rfl; kernel_rfl; kernel_rfl; (intro W hW; have hWc := Grow.cells hW; go_simp; exact ⟨OneV.mk _, Grow.refl _⟩))
    (refine lh_nil ?_; intro W hW; simp only [Act.put, List.setIfInBounds_toArray, List.set_cons_succ, List.set_cons_zero])
    go_wp2
    go_ret
    exact ⟨rfl, hW.1.1⟩
  have f2' : ((r.tn : Int) != (s.tn : Int)) = false := by rw [f2]; simp
  have F2 := Lib.hid f2
  clear f2
  cases f3 : combS r.c0 r.g0 s.c0 s.g0
  · have e : roomS r s = false := by unfold roomS; rw [f3]; simp
    rw [e]
    rw [f3] at K3
    clear e f1 f3
    go_enter Try.func98, Try.ntmps98
    go_wp2
    refine wp_region_grow [10] [4, 9] (by kernel_rfl) (by kernel_rfl) (by kernel_rfl) ?_
    apply Exists.intro
    iterate 4 (apply lh_o; kernel_rfl; kernel_rfl; kernel_rfl; (intro W hW; have hWc := Grow.cells hW; go_simp; exact ⟨OneV.mk _, Grow.refl _⟩))
    (apply lh_new; kernel_rfl; kernel_rfl; kernel_rfl; (intro W hW; have hWc := Grow.cells hW; go_simp; exact ⟨NewAt.mk _ _ _ _, Grow.alloc _ _⟩); intro g hfr)
    iterate 4 (apply lh_o; kernel_rfl; kernel_rfl; kernel_rfl; (intro W hW; have hWc := Grow.cells hW; go_simp; exact ⟨OneV.mk _, Grow.refl _⟩))
    (apply lh_new; kernel_rfl; kernel_rfl; kernel_rfl; (intro W hW; have hWc := Grow.cells hW; go_simp; exact ⟨NewAt.mk _ _ _ _, Grow.alloc _ _⟩); intro g hfr)
    (apply lh_h; kernel_rfl; kernel_rfl; kernel_rfl; (intro W hW; go_simp; first | exact gB (K1.out _ _ _ hW.1.1 hW.1.2 hW.2) | exact gV (K1.out _ _ _ hW.1.1 hW.1.2 hW.2)))
    iterate 23 (apply lh_o; kernel_rfl; kernel_rfl; kernel_rfl; (intro W hW; have hWc := Grow.cells hW; go_simp; exact ⟨OneV.mk _, Grow.refl _⟩))
    (apply lh_o; kernel_rfl; kernel_rfl; kernel_rfl; (intro W hW; go_simp; first | exact gB (K3.out _ hW) | exact gV (K3.out _ hW)))
    iterate 3 (apply lh_o; kernel_rfl; kernel_rfl; kernel_rfl; (intro W hW; have hWc := Grow.cells hW; go_simp; exact ⟨OneV.mk _, Grow.refl _⟩))
    iterate 10 (apply lh_skip; kernel_rfl; kernel_rfl)
    iterate 2 (apply lh_o; kernel_rfl; kernel_rfl; kernel_rfl; (intro W hW; have hWc := Grow.cells hW; go_simp; exact ⟨OneV.mk _, Grow.refl _⟩))
    iterate 6 (apply lh_skip; kernel_rfl; kernel_rfl)
    (apply lh_o; kernel_rfl; kernel_rfl; kernel_rfl; (intro W hW; have hWc := Grow.cells hW; go_simp; exact ⟨OneV.mk _, Grow.refl _⟩))
    (refine lh_nil ?_; intro W hW; simp only [Act.put, List.setIfInBounds_toArray, List.set_cons_succ, List.set_cons_zero])
    go_wp2
    go_ret
    exact ⟨rfl, hW.1.1⟩
  rw [f3] at K3
  cases f4 : combS r.c1 r.g1 s.c1 s.g1
  · have e : roomS r s = false := by unfold roomS; rw [f4]; simp
    rw [e]
    rw [f4] at K4
    clear e f1 f3 f4
    go_enter Try.func98, Try.ntmps98
    go_wp2
    refine wp_region_grow [10] [4, 9] (by kernel_rfl) (by kernel_rfl) (by kernel_rfl) ?_
    apply Exists.intro
    iterate 4 (apply lh_o; kernel_rfl; kernel_rfl; kernel_rfl; (intro W hW; have hWc := Grow.cells hW; go_simp; exact ⟨OneV.mk _, Grow.refl _⟩))
    (apply lh_new; kernel_rfl; kernel_rfl; kernel_rfl; (intro W hW; have hWc := Grow.cells hW; go_simp; exact ⟨NewAt.mk _ _ _ _, Grow.alloc _ _⟩); intro g hfr)
    iterate 4 (apply lh_o; kernel_rfl; kernel_rfl; kernel_rfl; (intro W hW; have hWc := Grow.cells hW; go_simp; exact ⟨OneV.mk _, Grow.refl _⟩))
    (apply lh_new; kernel_rfl; kernel_rfl; kernel_rfl; (intro W hW; have hWc := Grow.cells hW; go_simp; exact ⟨NewAt.mk _ _ _ _, Grow.alloc _ _⟩); intro g hfr)
    (apply lh_h; kernel_rfl; kernel_rfl; kernel_rfl; (intro W hW; go_simp; first | exact gB (K1.out _ _ _ hW.1.1 hW.1.2 hW.2) | exact gV (K1.out _ _ _ hW.1.1 hW.1.2 hW.2)))
    iterate 23 (apply lh_o; kernel_rfl; kernel_rfl; kernel_rfl; (intro W hW; have hWc := Grow.cells hW; go_simp; exact ⟨OneV.mk _, Grow.refl _⟩))
    (apply lh_o; kernel_rfl; kernel_rfl; kernel_rfl; (intro W hW; go_simp; first | exact gB (K3.out _ hW) | exact gV (K3.out _ hW)))
    iterate 11 (apply lh_o; kernel_rfl; kernel_rfl; kernel_rfl; (intro W hW; have hWc := Grow.cells hW; go_simp; exact ⟨OneV.mk _, Grow.refl _⟩))
    (apply lh_o; kernel_rfl; kernel_rfl; kernel_rfl; (intro W hW; go_simp; first | exact gB (K4.out _ hW) | exact gV (K4.out _ hW)))
    iterate 3 (apply lh_o; kernel_rfl; kernel_rfl; kernel_rfl; (intro W hW; have hWc := Grow.cells hW; go_simp; exact ⟨OneV.mk _, Grow.refl _⟩))
    iterate 6 (apply lh_skip; kernel_rfl; kernel_rfl)
    (apply lh_o; kernel_rfl; kernel_rfl; kernel_rfl; (intro W hW; have hWc := Grow.cells hW; go_simp; exact ⟨OneV.mk _, Grow.refl _⟩))
    (refine lh_nil ?_; intro W hW; simp only [Act.put, List.setIfInBounds_toArray, List.set_cons_succ, List.set_cons_zero])
    go_wp2
    go_ret
    exact ⟨rfl, hW.1.1⟩
  rw [f4] at K4
  cases f5 : rgsSame [r.l0, r.l1, r.l2, r.l3] [s.l0, s.l1, s.l2, s.l3] 4
  · have e : roomS r s = false := by unfold roomS; rw [f5]; simp
    rw [e]
    rw [f5] at K7
    clear e f1 f3 f4 f5
    go_enter Try.func98, Try.ntmps98
    go_wp2
    refine wp_region_grow [10, 54] [4, 9, 51, 53] (by kernel_rfl) (by kernel_rfl) (by kernel_rfl) ?_
    apply Exists.intro
    iterate 4 (apply lh_o; kernel_rfl; kernel_rfl; kernel_rfl; (intro W hW; have hWc := Grow.cells hW; go_simp; exact ⟨OneV.mk _, Grow.refl _⟩))
    (apply lh_new; kernel_rfl; kernel_rfl; kernel_rfl; (intro W hW; have hWc := Grow.cells hW; go_simp; exact ⟨NewAt.mk _ _ _ _, Grow.alloc _ _⟩); intro g hfr)
    iterate 4 (apply lh_o; kernel_rfl; kernel_rfl; kernel_rfl; (intro W hW; have hWc := Grow.cells hW; go_simp; exact ⟨OneV.mk _, Grow.refl _⟩))
    (apply lh_new; kernel_rfl; kernel_rfl; kernel_rfl; (intro W hW; have hWc := Grow.cells hW; go_simp; exact ⟨NewAt.mk _ _ _ _, Grow.alloc _ _⟩); intro g hfr)
    (apply lh_h; kernel_rfl; kernel_rfl; kernel_rfl; (intro W hW; go_simp; first | exact gB (K1.out _ _ _ hW.1.1 hW.1.2 hW.2) | exact gV (K1.out _ _ _ hW.1.1 hW.1.2 hW.2)))
    iterate 23 (apply lh_o; kernel_rfl; kernel_rfl; kernel_rfl; (intro W hW; have hWc := Grow.cells hW; go_simp; exact ⟨OneV.mk _, Grow.refl _⟩))
    (apply lh_o; kernel_rfl; kernel_rfl; kernel_rfl; (intro W hW; go_simp; first | exact gB (K3.out _ hW) | exact gV (K3.out _ hW)))
    iterate 11 (apply lh_o; kernel_rfl; kernel_rfl; kernel_rfl; (intro W hW; have hWc := Grow.cells hW; go_simp; exact ⟨OneV.mk _, Grow.refl _⟩))
    (apply lh_o; kernel_rfl; kernel_rfl; kernel_rfl; (intro W hW; go_simp; first | exact gB (K4.out _ hW) | exact gV (K4.out _ hW)))
    iterate 4 (apply lh_o; kernel_rfl; kernel_rfl; kernel_rfl; (intro W hW; have hWc := Grow.cells hW; go_simp; exact ⟨OneV.mk _, Grow.refl _⟩))
    apply lh_w (fun g3 : Nat => Value.slice (some ⟨g3, 0, none⟩) 4 4) (fun g3 w' => w'.heap[g3]? = some (.cells #[.slice r.l0.a r.l0.n r.l0.c, .int .i64 r.l0.i, .slice r.l1.a r.l1.n r.l1.c, .int .i64 r.l1.i, .slice r.l2.a r.l2.n r.l2.c, .int .i64 r.l2.i, .slice r.l3.a r.l3.n r.l3.c, .int .i64 r.l3.i] 42)) 0 (fun g3 w w' h hg => (Below.block hg _ (Array.getElem?_eq_some_iff.1 h).1).trans h) (fun i j h => by simp at h; exact h)
    kernel_rfl
    kernel_rfl
    kernel_rfl
    · intro W hW
      go_simp
      exact (K5.out W hW).mono fun e w' ⟨g2, he, hb2, hg2⟩ => ⟨g2, he, hg2, hb2⟩
    exact anti
    intro g3
    (apply lh_o; kernel_rfl; kernel_rfl; kernel_rfl; (intro W hW; have hWc := Grow.cells hW; go_simp; exact ⟨OneV.mk _, Grow.refl _⟩))
    apply lh_w (fun g4 : Nat => Value.slice (some ⟨g4, 0, none⟩) 4 4) (fun g4 w' => w'.heap[g4]? = some (.cells #[.slice s.l0.a s.l0.n s.l0.c, .int .i64 s.l0.i, .slice s.l1.a s.l1.n s.l1.c, .int .i64 s.l1.i, .slice s.l2.a s.l2.n s.l2.c, .int .i64 s.l2.i, .slice s.l3.a s.l3.n s.l3.c, .int .i64 s.l3.i] 42)) 0 (fun g4 w w' h hg => (Below.block hg _ (Array.getElem?_eq_some_iff.1 h).1).trans h) (fun i j h => by simp at h; exact h)
    kernel_rfl
    kernel_rfl
    kernel_rfl
    · intro W hW
      go_simp
      exact (K6.out W hW).mono fun e w' ⟨g2, he, hb2, hg2⟩ => ⟨g2, he, hg2, hb2⟩
    exact anti
    intro g4
    (apply lh_h; kernel_rfl; kernel_rfl; kernel_rfl; (intro W hW; go_simp; first | exact gB (K7.out _ _ _ hW.1.1.1.1 hW.1.2 hW.2) | exact gV (K7.out _ _ _ hW.1.1.1.1 hW.1.2 hW.2)))
    iterate 2 (apply lh_o; kernel_rfl; kernel_rfl; kernel_rfl; (intro W hW; have hWc := Grow.cells hW; go_simp; exact ⟨OneV.mk _, Grow.refl _⟩))
    (refine lh_nil ?_; intro W hW; simp only [Act.put, List.setIfInBounds_toArray, List.set_cons_succ, List.set_cons_zero])
    go_wp2
    go_ret
    exact ⟨rfl, hW.1.1.1.1⟩
  rw [f5] at K7
  have e2' : s.tn = r.tn := by have := F2.out; omega
  have eR : roomS r s = (tapsTo r.ts s.ts r.tn && (dhTo r s 4 && (sameB r.dry s.dry && sameB r.wet s.wet))) := by
    unfold roomS; rw [f1, decide_eq_true F2.out, f3, f4, f5]; rfl
  rw [eR]
  clear eR f1 F2 f3 f4 f5
  rw [e2'] at c2
  go_enter Try.func98, Try.ntmps98
  go_wp2
  refine wp_region_grow [10, 54] [4, 9, 51, 53] (by kernel_rfl) (by kernel_rfl) (by kernel_rfl) ?_
  apply Exists.intro
  iterate 4 (apply lh_o; kernel_rfl; kernel_rfl; kernel_rfl; (intro W hW; have hWc := Grow.cells hW; go_simp; exact ⟨OneV.mk _, Grow.refl _⟩))
  (apply lh_new; kernel_rfl; kernel_rfl; kernel_rfl; (intro W hW; have hWc := Grow.cells hW; go_simp; exact ⟨NewAt.mk _ _ _ _, Grow.alloc _ _⟩); intro g hfr)
  iterate 4 (apply lh_o; kernel_rfl; kernel_rfl; kernel_rfl; (intro W hW; have hWc := Grow.cells hW; go_simp; exact ⟨OneV.mk _, Grow.refl _⟩))
  (apply lh_new; kernel_rfl; kernel_rfl; kernel_rfl; (intro W hW; have hWc := Grow.cells hW; go_simp; exact ⟨NewAt.mk _ _ _ _, Grow.alloc _ _⟩); intro g hfr)
  (apply lh_h; kernel_rfl; kernel_rfl; kernel_rfl; (intro W hW; go_simp; first | exact gB (K1.out _ _ _ hW.1.1 hW.1.2 hW.2) | exact gV (K1.out _ _ _ hW.1.1 hW.1.2 hW.2)))
  iterate 23 (apply lh_o; kernel_rfl; kernel_rfl; kernel_rfl; (intro W hW; have hWc := Grow.cells hW; go_simp; exact ⟨OneV.mk _, Grow.refl _⟩))
  (apply lh_o; kernel_rfl; kernel_rfl; kernel_rfl; (intro W hW; go_simp; first | exact gB (K3.out _ hW) | exact gV (K3.out _ hW)))
  iterate 11 (apply lh_o; kernel_rfl; kernel_rfl; kernel_rfl; (intro W hW; have hWc := Grow.cells hW; go_simp; exact ⟨OneV.mk _, Grow.refl _⟩))
  (apply lh_o; kernel_rfl; kernel_rfl; kernel_rfl; (intro W hW; go_simp; first | exact gB (K4.out _ hW) | exact gV (K4.out _ hW)))
  iterate 4 (apply lh_o; kernel_rfl; kernel_rfl; kernel_rfl; (intro W hW; have hWc := Grow.cells hW; go_simp; exact ⟨OneV.mk _, Grow.refl _⟩))
  apply lh_w (fun g3 : Nat => Value.slice (some ⟨g3, 0, none⟩) 4 4) (fun g3 w' => w'.heap[g3]? = some (.cells #[.slice r.l0.a r.l0.n r.l0.c, .int .i64 r.l0.i, .slice r.l1.a r.l1.n r.l1.c, .int .i64 r.l1.i, .slice r.l2.a r.l2.n r.l2.c, .int .i64 r.l2.i, .slice r.l3.a r.l3.n r.l3.c, .int .i64 r.l3.i] 42)) 0 (fun g3 w w' h hg => (Below.block hg _ (Array.getElem?_eq_some_iff.1 h).1).trans h) (fun i j h => by simp at h; exact h)
  kernel_rfl
  kernel_rfl
  kernel_rfl
  · intro W hW
    go_simp
    exact (K5.out W hW).mono fun e w' ⟨g2, he, hb2, hg2⟩ => ⟨g2, he, hg2, hb2⟩
  exact anti
  intro g3
  (apply lh_o; kernel_rfl; kernel_rfl; kernel_rfl; (intro W hW; have hWc := Grow.cells hW; go_simp; exact ⟨OneV.mk _, Grow.refl _⟩))
  apply lh_w (fun g4 : Nat => Value.slice (some ⟨g4, 0, none⟩) 4 4) (fun g4 w' => w'.heap[g4]? = some (.cells #[.slice s.l0.a s.l0.n s.l0.c, .int .i64 s.l0.i, .slice s.l1.a s.l1.n s.l1.c, .int .i64 s.l1.i, .slice s.l2.a s.l2.n s.l2.c, .int .i64 s.l2.i, .slice s.l3.a s.l3.n s.l3.c, .int .i64 s.l3.i] 42)) 0 (fun g4 w w' h hg => (Below.block hg _ (Array.getElem?_eq_some_iff.1 h).1).trans h) (fun i j h => by simp at h; exact h)
  kernel_rfl
  kernel_rfl
  kernel_rfl
  · intro W hW
    go_simp
    exact (K6.out W hW).mono fun e w' ⟨g2, he, hb2, hg2⟩ => ⟨g2, he, hg2, hb2⟩
  exact anti
  intro g4
  (apply lh_h; kernel_rfl; kernel_rfl; kernel_rfl; (intro W hW; go_simp; first | exact gB (K7.out _ _ _ hW.1.1.1.1 hW.1.2 hW.2) | exact gV (K7.out _ _ _ hW.1.1.1.1 hW.1.2 hW.2)))
  iterate 2 (apply lh_o; kernel_rfl; kernel_rfl; kernel_rfl; (intro W hW; have hWc := Grow.cells hW; go_simp; exact ⟨OneV.mk _, Grow.refl _⟩))
  (refine lh_nil ?_; intro W hW; simp only [Act.put, List.setIfInBounds_toArray, List.set_cons_succ, List.set_cons_zero])
  have BW : Hid (Below w.heap.size w W) := hW.1.1.1.1
  clear hW K1 K3 K4 K5 K6 K7 a0 a1 a2 c0 c1 c2 f2'
  have kA := KA.out _ BW.out
  have kC := KC.out _ BW.out
  have hbA : b < W.heap.size := Nat.lt_of_lt_of_le hb BW.out.size
  have hbC : b2 < W.heap.size := Nat.lt_of_lt_of_le hb2 BW.out.size
  have HA := Lib.hid kA
  have HC := Lib.hid kC
  have TA := Lib.hid ((N.out.t.below BW.out (Nat.le_refl _)).at_)
  have TC : Hid (0 < r.tn → ∃ b o, s.ta = some ⟨b, o, none⟩ ∧ b < W.heap.size ∧ ∀ j, j < r.tn → W.cell? ⟨b, o + j * 2, none⟩ = some (.int .i64 (tat s.ts j).1) ∧ W.cell? ⟨b, o + j * 2 + 1, none⟩ = some (.float .f32 (tat s.ts j).2)) := e2' ▸ (N'.out.t.below BW.out (Nat.le_refl _)).at_
  have a2 : W.cell? ⟨b, 2, none⟩ = some (.slice r.ta r.tn r.tc) := blk_cell kA rfl
  have c2 : W.cell? ⟨b2, 2, none⟩ = some (.slice s.ta r.tn s.tc) := e2' ▸ blk_cell kC rfl
  clear kA kC e2' mt2
  obtain ⟨W0, hW0⟩ : ∃ W0, W0 = W := ⟨_, rfl⟩
  subst hW0
  go_wp2
  go_loopw [5] (fun i wr => ∃ k : Nat, k ≤ r.tn ∧ i = .int .i64 k ∧ Hid (tapsTo r.ts s.ts k = true) ∧ ∃ q, wr = W0.drewN q) (fun i _ => r.tn - (intOf i).toNat)
  case atStart => exact ⟨0, by omega, rfl, rfl, same0 _⟩
  case round =>
    obtain ⟨k, hk, rfl, hall, q, rfl⟩ := hrel
    by_cases hlt : k < r.tn
    · obtain ⟨bt, ot, hta, hbt, hct⟩ := TA.out (by omega)
      obtain ⟨bu, ou, hua, hbu, hcu⟩ := TC.out (by omega)
      have x0 := (hct k hlt).1
      have x1 := (hct k hlt).2
      have y0 := (hcu k hlt).1
      have y1 := (hcu k hlt).2
      rw [hta] at a2
      rw [hua] at c2
      have hD : tapS (tat r.ts k) (tat s.ts k) = (((tat r.ts k).1 == (tat s.ts k).1) && sameB (tat r.ts k).2 (tat s.ts k).2) := rfl
      have hT : tapsTo r.ts s.ts (k + 1) = (tapsTo r.ts s.ts k && tapS (tat r.ts k) (tat s.ts k)) := rfl
      have KS : Hid (∀ m, Calls Try.prog 145 #[.float .f32 (tat r.ts k).2, .float .f32 (tat s.ts k).2] (W0.drewN m) (RetB (sameB (tat r.ts k).2 (tat s.ts k).2) (W0.drewN m))) := fun m => c_l01Same _ _ _
      clear hct hcu hta hua
      cases o1 : ((tat r.ts k).1 == (tat s.ts k).1)
      · have o1' : ((tat r.ts k).1 != (tat s.ts k).1) = true := by rw [bne, o1]; rfl
        have HU := Lib.hid (tapsTo_false (ts := r.ts) (us := s.ts) (k := k) (by rw [hD, o1]; rfl) r.tn hlt)
        clear hD hT
        go_wp2
        refine wp_region_sets' (by kernel_rfl) (by kernel_rfl) ?_
        apply Exists.intro
        iterate 18 (apply lx_want; kernel_rfl; (intro n; go_simp; exact ⟨OneV.mk _, _, (by first | rfl | exact congrArg _ (Nat.add_assoc _ _ _))⟩); rintro _ rfl)
        iterate 18 (apply lx_skip; kernel_rfl)
        (apply lx_want; kernel_rfl; (intro n; go_simp; exact ⟨OneV.mk _, _, (by first | rfl | exact congrArg _ (Nat.add_assoc _ _ _))⟩); rintro _ rfl)
        (refine lx_nil (Vl := []) ?_; intro n; simp only [Act.put, List.setIfInBounds_toArray, List.set_cons_succ, List.set_cons_zero])
        have bE := BW.out
        go_wp2
        go_ret
        exact ⟨by rw [HU.out]; rfl, by (repeat (first | (with_reducible refine Below.drewN ?_) | (with_reducible refine Below.drew ?_) | ((with_reducible refine Below.alloc ?_ ?_ _); rotate_left; (first | omega | (simp <;> omega))) | ((with_reducible refine Below.setCell ?_ ?_ _); rotate_left; (first | omega | (simp <;> omega))) | (with_reducible exact Below.refl _ _) | (with_reducible assumption)))⟩
      have o1' : ((tat r.ts k).1 != (tat s.ts k).1) = false := by rw [bne, o1]; rfl
      cases o2 : sameB (tat r.ts k).2 (tat s.ts k).2
      · rw [o2] at KS
        have HU := Lib.hid (tapsTo_false (ts := r.ts) (us := s.ts) (k := k) (by rw [hD, o2, Bool.and_false]) r.tn hlt)
        clear hD hT o2
        go_wp2
        refine wp_region_sets' (by kernel_rfl) (by kernel_rfl) ?_
        apply Exists.intro
        iterate 34 (apply lx_want; kernel_rfl; (intro n; go_simp; exact ⟨OneV.mk _, _, (by first | rfl | exact congrArg _ (Nat.add_assoc _ _ _))⟩); rintro _ rfl)
        (apply lx_want; kernel_rfl; (intro n; go_simp; first | exact lx_callV (KS.out _) | exact lx_callV2 (KS.out _)); rintro _ rfl)
        iterate 2 (apply lx_want; kernel_rfl; (intro n; go_simp; exact ⟨OneV.mk _, _, (by first | rfl | exact congrArg _ (Nat.add_assoc _ _ _))⟩); rintro _ rfl)
        (refine lx_nil (Vl := []) ?_; intro n; simp only [Act.put, List.setIfInBounds_toArray, List.set_cons_succ, List.set_cons_zero])
        have bE := BW.out
        go_wp2
        go_ret
        exact ⟨by rw [HU.out]; rfl, by (repeat (first | (with_reducible refine Below.drewN ?_) | (with_reducible refine Below.drew ?_) | ((with_reducible refine Below.alloc ?_ ?_ _); rotate_left; (first | omega | (simp <;> omega))) | ((with_reducible refine Below.setCell ?_ ?_ _); rotate_left; (first | omega | (simp <;> omega))) | (with_reducible exact Below.refl _ _) | (with_reducible assumption)))⟩
      rw [o2] at KS
      have HU : Hid (tapsTo r.ts s.ts (k + 1) = true) := by rw [hT, hall.out, hD, o1, o2]; rfl
      clear hD hT o2
      go_wp2
      refine wp_region_sets' (by kernel_rfl) (by kernel_rfl) ?_
      apply Exists.intro
      iterate 34 (apply lx_want; kernel_rfl; (intro n; go_simp; exact ⟨OneV.mk _, _, (by first | rfl | exact congrArg _ (Nat.add_assoc _ _ _))⟩); rintro _ rfl)
      (apply lx_want; kernel_rfl; (intro n; go_simp; first | exact lx_callV (KS.out _) | exact lx_callV2 (KS.out _)); rintro _ rfl)
      iterate 2 (apply lx_want; kernel_rfl; (intro n; go_simp; exact ⟨OneV.mk _, _, (by first | rfl | exact congrArg _ (Nat.add_assoc _ _ _))⟩); rintro _ rfl)
      (refine lx_nil (Vl := []) ?_; intro n; simp only [Act.put, List.setIfInBounds_toArray, List.set_cons_succ, List.set_cons_zero])
      go_wp2
      go_roundw
      case rel => exact ⟨k + 1, by omega, by go_num, HU, (by first | exact same1 _ _ | exact ⟨_, by rw [World.drewN_drewN]⟩)⟩
      case measure => simp [intOf]; omega
    · obtain rfl : k = r.tn := by omega
      have HD := Lib.hid hall.out
      clear hall TA TC
      go_wp2
      clear a2 c2
      go_loopw [6] (fun i wr => ∃ k : Nat, k ≤ 4 ∧ i = .int .i64 k ∧ Hid (dhTo r s k = true) ∧ ∃ q, wr = W0.drewN q) (fun i _ => 4 - (intOf i).toNat)
      case atStart => exact ⟨0, by omega, rfl, rfl, same1 _ _⟩
      case round =>
        obtain ⟨k, hk, rfl, hall, q3, rfl⟩ := hrel
        by_cases hlt : k < 4
        · have x0 := h_cells HA.out k hlt
          have y0 := h_cells HC.out k hlt
          have KD : Hid (∀ m, Calls Try.prog 146 #[.pointer (some ⟨b, 17 + k * 6, none⟩), .pointer (some ⟨b2, 17 + k * 6, none⟩)] (W0.drewN m) (RetB (ftS (r.d k) (s.d k)) (W0.drewN m))) := fun m => c_l02SameD (w := W0.drewN m) HA.out HC.out hlt
          have KS : Hid (∀ m, Calls Try.prog 145 #[.float .f32 (r.h k), .float .f32 (s.h k)] (W0.drewN m) (RetB (sameB (r.h k) (s.h k)) (W0.drewN m))) := fun m => c_l01Same _ _ _
          have hT : dhTo r s (k + 1) = (dhTo r s k && (ftS (r.d k) (s.d k) && sameB (r.h k) (s.h k))) := rfl
          cases o1 : ftS (r.d k) (s.d k)
          · rw [o1] at KD
            have HU := Lib.hid (dhTo_false (r := r) (s := s) (k := k) (by rw [o1]; rfl) 4 hlt)
            clear hT o1
            go_wp2
            refine wp_region_sets' (by kernel_rfl) (by kernel_rfl) ?_
            apply Exists.intro
            iterate 10 (apply lx_want; kernel_rfl; (intro n; go_simp; exact ⟨OneV.mk _, _, (by first | rfl | exact congrArg _ (Nat.add_assoc _ _ _))⟩); rintro _ rfl)
            (apply lx_want; kernel_rfl; (intro n; go_simp; first | exact lx_callV (KD.out _) | exact lx_callV2 (KD.out _)); rintro _ rfl)
            iterate 2 (apply lx_want; kernel_rfl; (intro n; go_simp; exact ⟨OneV.mk _, _, (by first | rfl | exact congrArg _ (Nat.add_assoc _ _ _))⟩); rintro _ rfl)
            iterate 14 (apply lx_skip; kernel_rfl)
            (apply lx_want; kernel_rfl; (intro n; go_simp; exact ⟨OneV.mk _, _, (by first | rfl | exact congrArg _ (Nat.add_assoc _ _ _))⟩); rintro _ rfl)
            (refine lx_nil (Vl := []) ?_; intro n; simp only [Act.put, List.setIfInBounds_toArray, List.set_cons_succ, List.set_cons_zero])
            have bE := BW.out
            go_wp2
            go_ret
            exact ⟨by rw [HD.out, HU.out]; rfl, by (repeat (first | (with_reducible refine Below.drewN ?_) | (with_reducible refine Below.drew ?_) | ((with_reducible refine Below.alloc ?_ ?_ _); rotate_left; (first | omega | (simp <;> omega))) | ((with_reducible refine Below.setCell ?_ ?_ _); rotate_left; (first | omega | (simp <;> omega))) | (with_reducible exact Below.refl _ _) | (with_reducible assumption)))⟩
          rw [o1] at KD
          cases o2 : sameB (r.h k) (s.h k)
          · rw [o2] at KS
            have HU := Lib.hid (dhTo_false (r := r) (s := s) (k := k) (by rw [o2, Bool.and_false]) 4 hlt)
            clear hT o1 o2
            go_wp2
            refine wp_region_sets' (by kernel_rfl) (by kernel_rfl) ?_
            apply Exists.intro
            iterate 10 (apply lx_want; kernel_rfl; (intro n; go_simp; exact ⟨OneV.mk _, _, (by first | rfl | exact congrArg _ (Nat.add_assoc _ _ _))⟩); rintro _ rfl)
            (apply lx_want; kernel_rfl; (intro n; go_simp; first | exact lx_callV (KD.out _) | exact lx_callV2 (KD.out _)); rintro _ rfl)
            iterate 14 (apply lx_want; kernel_rfl; (intro n; go_simp; exact ⟨OneV.mk _, _, (by first | rfl | exact congrArg _ (Nat.add_assoc _ _ _))⟩); rintro _ rfl)
            (apply lx_want; kernel_rfl; (intro n; go_simp; first | exact lx_callV (KS.out _) | exact lx_callV2 (KS.out _)); rintro _ rfl)
            iterate 2 (apply lx_want; kernel_rfl; (intro n; go_simp; exact ⟨OneV.mk _, _, (by first | rfl | exact congrArg _ (Nat.add_assoc _ _ _))⟩); rintro _ rfl)
            (refine lx_nil (Vl := []) ?_; intro n; simp only [Act.put, List.setIfInBounds_toArray, List.set_cons_succ, List.set_cons_zero])
            have bE := BW.out
            go_wp2
            go_ret
            exact ⟨by rw [HD.out, HU.out]; rfl, by (repeat (first | (with_reducible refine Below.drewN ?_) | (with_reducible refine Below.drew ?_) | ((with_reducible refine Below.alloc ?_ ?_ _); rotate_left; (first | omega | (simp <;> omega))) | ((with_reducible refine Below.setCell ?_ ?_ _); rotate_left; (first | omega | (simp <;> omega))) | (with_reducible exact Below.refl _ _) | (with_reducible assumption)))⟩
          rw [o2] at KS
          have HU : Hid (dhTo r s (k + 1) = true) := by rw [hT, hall.out, o1, o2]; rfl
          clear hT o1 o2
          go_wp2
          refine wp_region_sets' (by kernel_rfl) (by kernel_rfl) ?_
          apply Exists.intro
          iterate 10 (apply lx_want; kernel_rfl; (intro n; go_simp; exact ⟨OneV.mk _, _, (by first | rfl | exact congrArg _ (Nat.add_assoc _ _ _))⟩); rintro _ rfl)
          (apply lx_want; kernel_rfl; (intro n; go_simp; first | exact lx_callV (KD.out _) | exact lx_callV2 (KD.out _)); rintro _ rfl)
          iterate 14 (apply lx_want; kernel_rfl; (intro n; go_simp; exact ⟨OneV.mk _, _, (by first | rfl | exact congrArg _ (Nat.add_assoc _ _ _))⟩); rintro _ rfl)
          (apply lx_want; kernel_rfl; (intro n; go_simp; first | exact lx_callV (KS.out _) | exact lx_callV2 (KS.out _)); rintro _ rfl)
          iterate 2 (apply lx_want; kernel_rfl; (intro n; go_simp; exact ⟨OneV.mk _, _, (by first | rfl | exact congrArg _ (Nat.add_assoc _ _ _))⟩); rintro _ rfl)
          (refine lx_nil (Vl := []) ?_; intro n; simp only [Act.put, List.setIfInBounds_toArray, List.set_cons_succ, List.set_cons_zero])
          go_wp2
          go_roundw
          case rel => exact ⟨k + 1, by omega, by go_num, HU, (by first | exact same1 _ _ | exact ⟨_, by rw [World.drewN_drewN]⟩)⟩
          case measure => simp [intOf]; omega
        · obtain rfl : k = 4 := by omega
          have HE := Lib.hid hall.out
          clear hall
          have a45 : W0.cell? ⟨b, 45, none⟩ = some (.float .f32 r.dry) := blk_cell HA.out rfl
          have c45 : W0.cell? ⟨b2, 45, none⟩ = some (.float .f32 s.dry) := blk_cell HC.out rfl
          have a46 : W0.cell? ⟨b, 46, none⟩ = some (.float .f32 r.wet) := blk_cell HA.out rfl
          have c46 : W0.cell? ⟨b2, 46, none⟩ = some (.float .f32 s.wet) := blk_cell HC.out rfl
          have K8 : Hid (∀ m, Calls Try.prog 145 #[.float .f32 r.dry, .float .f32 s.dry] (W0.drewN m) (RetB (sameB r.dry s.dry) (W0.drewN m))) := fun m => c_l01Same _ _ _
          have K9 : Hid (∀ m, Calls Try.prog 145 #[.float .f32 r.wet, .float .f32 s.wet] (W0.drewN m) (RetB (sameB r.wet s.wet) (W0.drewN m))) := fun m => c_l01Same _ _ _
          cases o1 : sameB r.dry s.dry
          · rw [o1] at K8
            have O1 := Lib.hid o1
            clear o1
            go_wp2
            refine wp_region_sets' (by kernel_rfl) (by kernel_rfl) ?_
            apply Exists.intro
            iterate 8 (apply lx_want; kernel_rfl; (intro n; go_simp; exact ⟨OneV.mk _, _, (by first | rfl | exact congrArg _ (Nat.add_assoc _ _ _))⟩); rintro _ rfl)
            (apply lx_want; kernel_rfl; (intro n; go_simp; first | exact lx_callV (K8.out _) | exact lx_callV2 (K8.out _)); rintro _ rfl)
            (apply lx_want; kernel_rfl; (intro n; go_simp; exact ⟨OneV.mk _, _, (by first | rfl | exact congrArg _ (Nat.add_assoc _ _ _))⟩); rintro _ rfl)
            iterate 9 (apply lx_skip; kernel_rfl)
            iterate 2 (apply lx_want; kernel_rfl; (intro n; go_simp; exact ⟨OneV.mk _, _, (by first | rfl | exact congrArg _ (Nat.add_assoc _ _ _))⟩); rintro _ rfl)
            (refine lx_nil (Vl := []) ?_; intro n; simp only [Act.put, List.setIfInBounds_toArray, List.set_cons_succ, List.set_cons_zero])
            have bE := BW.out
            go_wp2
            go_ret
            exact ⟨by rw [HD.out, HE.out, O1.out]; rfl, by (repeat (first | (with_reducible refine Below.drewN ?_) | (with_reducible refine Below.drew ?_) | ((with_reducible refine Below.alloc ?_ ?_ _); rotate_left; (first | omega | (simp <;> omega))) | ((with_reducible refine Below.setCell ?_ ?_ _); rotate_left; (first | omega | (simp <;> omega))) | (with_reducible exact Below.refl _ _) | (with_reducible assumption)))⟩
          rw [o1] at K8
          have O1 := Lib.hid o1
          clear o1
          go_wp2
          refine wp_region_sets' (by kernel_rfl) (by kernel_rfl) ?_
          apply Exists.intro
          iterate 8 (apply lx_want; kernel_rfl; (intro n; go_simp; exact ⟨OneV.mk _, _, (by first | rfl | exact congrArg _ (Nat.add_assoc _ _ _))⟩); rintro _ rfl)
          (apply lx_want; kernel_rfl; (intro n; go_simp; first | exact lx_callV (K8.out _) | exact lx_callV2 (K8.out _)); rintro _ rfl)
          iterate 9 (apply lx_want; kernel_rfl; (intro n; go_simp; exact ⟨OneV.mk _, _, (by first | rfl | exact congrArg _ (Nat.add_assoc _ _ _))⟩); rintro _ rfl)
          (apply lx_want; kernel_rfl; (intro n; go_simp; first | exact lx_callV (K9.out _) | exact lx_callV2 (K9.out _)); rintro _ rfl)
          iterate 2 (apply lx_want; kernel_rfl; (intro n; go_simp; exact ⟨OneV.mk _, _, (by first | rfl | exact congrArg _ (Nat.add_assoc _ _ _))⟩); rintro _ rfl)
          (refine lx_nil (Vl := []) ?_; intro n; simp only [Act.put, List.setIfInBounds_toArray, List.set_cons_succ, List.set_cons_zero])
          have bE := BW.out
          go_wp2
          go_ret
          exact ⟨by rw [HD.out, HE.out, O1.out]; rfl, by (repeat (first | (with_reducible refine Below.drewN ?_) | (with_reducible refine Below.drew ?_) | ((with_reducible refine Below.alloc ?_ ?_ _); rotate_left; (first | omega | (simp <;> omega))) | ((with_reducible refine Below.setCell ?_ ?_ _); rotate_left; (first | omega | (simp <;> omega))) | (with_reducible exact Below.refl _ _) | (with_reducible assumption)))⟩
end Go.Proofs.Ytfhegjjgfaeinaa
