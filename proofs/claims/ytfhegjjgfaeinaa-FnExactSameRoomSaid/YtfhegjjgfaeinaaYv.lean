
/-
The reference's test of rooms.
-/
import Derived.Test.YtfhegjjgfaeinaaYl
import Derived.Test.YtfhegjjgfaeinaaVb
namespace Go.Proofs.Ytfhegjjgfaeinaa
open Go Go.RowKit Fl
def combB (q : Rg) (x : Nat) : Bool := (ringB q.n q.i && finTo q.xs q.n) && finB x
def dkB (d : Ft) : Bool := okF d.k [d.f0, d.f1, d.f2] [d.f3, d.f4] && (d.k == 1)
def tapB (t : Int × Nat) (n : Nat) : Bool := inB t.1 1 n && finB t.2
/-- the first k taps are valid -/
def tapTo (ts : List (Int × Nat)) (n : Nat) : Nat → Bool
  | 0 => true
  | k + 1 => tapTo ts n k && tapB (tat ts k) n
theorem tapTo_false {ts : List (Int × Nat)} {m k : Nat} (h : tapB (tat ts k) m = false) : ∀ n, k < n → tapTo ts m n = false
  | 0, hn => absurd hn (by omega)
  | n + 1, hn => by
    by_cases e : k = n
    · subst e; rw [tapTo, h, Bool.and_false]
    · rw [tapTo, tapTo_false h n (by omega), Bool.false_and]
def Rv.d (r : Rv) : Nat → Ft
  | 0 => r.d0
  | 1 => r.d1
  | 2 => r.d2
  | _ => r.d3
/-- the first k filters are valid -/
def dTo (r : Rv) : Nat → Bool
  | 0 => true
  | k + 1 => dTo r k && dkB (r.d k)
theorem dTo_false {r : Rv} {k : Nat} (h : dkB (r.d k) = false) : ∀ n, k < n → dTo r n = false
  | 0, hn => absurd hn (by omega)
  | n + 1, hn => by
    by_cases e : k = n
    · subst e; rw [dTo, h, Bool.and_false]
    · rw [dTo, dTo_false h n (by omega), Bool.false_and]
def rokB (q : Rg) : Bool := ringB q.n q.i && finTo q.xs q.n
/-- is a room valid -/
def roomB (r : Rv) : Bool :=
  rokB r.e && (combB r.c0 r.g0 && (combB r.c1 r.g1 && (rgsTo [r.l0, r.l1, r.l2, r.l3] 4 && (decide ((r.tn : Int) ≤ 6) && (dTo r 4 && (tapTo r.ts r.e.n r.tn && finTo [r.h0, r.h1, r.h2, r.h3, r.dry, r.wet] 6))))))
theorem d_cells {w : World} {b : Nat} {r : Rv} {T : TypeId} (kb : w.heap[b]? = some (.cells r.cells T)) : ∀ k, k < 4 →
    w.cell? ⟨b, 17 + k * 6, none⟩ = some (.int .i64 (r.d k).k) ∧ w.cell? ⟨b, 17 + k * 6 + 1, none⟩ = some (.float .f32 (r.d k).f0) ∧ w.cell? ⟨b, 17 + k * 6 + 2, none⟩ = some (.float .f32 (r.d k).f1) ∧ w.cell? ⟨b, 17 + k * 6 + 3, none⟩ = some (.float .f32 (r.d k).f2) ∧ w.cell? ⟨b, 17 + k * 6 + 4, none⟩ = some (.float .f32 (r.d k).f3) ∧ w.cell? ⟨b, 17 + k * 6 + 5, none⟩ = some (.float .f32 (r.d k).f4)
  | 0, _ => ⟨blk_cell kb rfl, blk_cell kb rfl, blk_cell kb rfl, blk_cell kb rfl, blk_cell kb rfl, blk_cell kb rfl⟩
  | 1, _ => ⟨blk_cell kb rfl, blk_cell kb rfl, blk_cell kb rfl, blk_cell kb rfl, blk_cell kb rfl, blk_cell kb rfl⟩
  | 2, _ => ⟨blk_cell kb rfl, blk_cell kb rfl, blk_cell kb rfl, blk_cell kb rfl, blk_cell kb rfl, blk_cell kb rfl⟩
  | 3, _ => ⟨blk_cell kb rfl, blk_cell kb rfl, blk_cell kb rfl, blk_cell kb rfl, blk_cell kb rfl, blk_cell kb rfl⟩
  | k + 4, h => absurd h (by omega)
theorem c_l02OkD {w : World} {b : Nat} {r : Rv} {T : TypeId} (kb : w.heap[b]? = some (.cells r.cells T)) {k : Nat} (hk : k < 4) :
    Calls Try.prog 119 #[.pointer (some ⟨b, 17 + k * 6, none⟩)] w (RetB (okF (r.d k).k [(r.d k).f0, (r.d k).f1, (r.d k).f2] [(r.d k).f3, (r.d k).f4]) w) := by
  obtain ⟨h0, h1, h2, h3, h4, h5⟩ := d_cells kb k hk
  exact c_l02Ok b (17 + k * 6) (r.d k).k _ _ w h0 (three _ h1 h2 h3) (two _ h4 h5)
theorem c_nums6 (W : World) (g : Nat) (x1 x2 x3 x4 x5 x6 : Nat) {T : TypeId} (hg : W.heap[g]? = some (.cells #[.float .f32 x1, .float .f32 x2, .float .f32 x3, .float .f32 x4, .float .f32 x5, .float .f32 x6] T)) :
    Calls Try.prog 120 #[.slice (some ⟨g, 0, none⟩) 6 6] W (RetB (finTo [x1, x2, x3, x4, x5, x6] 6) W) :=
  c_l04All _ 6 6 [x1, x2, x3, x4, x5, x6] W ⟨rfl, Nat.le_refl _, by omega, fun _ => ⟨g, 0, rfl, (Array.getElem?_eq_some_iff.1 hg).1, fun i hi => by
    rw [cell_block hg, Nat.zero_add]
    match i, hi with
    | 0, _ => rfl
    | 1, _ => rfl
    | 2, _ => rfl
    | 3, _ => rfl
    | 4, _ => rfl
    | 5, _ => rfl
    | k + 6, h => exact absurd h (by omega)⟩⟩
theorem c_l06Loops (b : Nat) (r : Rv) (w : World) {T : TypeId} (kb : w.heap[b]? = some (.cells r.cells T)) :
    Calls Try.prog 144 #[.pointer (some ⟨b, 0, none⟩)] w (fun e w' => ∃ g, e = .returned (.slice (some ⟨g, 0, none⟩) 4 4) ∧ Below w.heap.size w w' ∧ w'.heap[g]? = some (.cells #[.slice r.l0.a r.l0.n r.l0.c, .int .i64 r.l0.i, .slice r.l1.a r.l1.n r.l1.c, .int .i64 r.l1.i, .slice r.l2.a r.l2.n r.l2.c, .int .i64 r.l2.i, .slice r.l3.a r.l3.n r.l3.c, .int .i64 r.l3.i] 42)) := by
  have hb := (Array.getElem?_eq_some_iff.1 kb).1
  have a9 : w.cell? ⟨b, 9, none⟩ = some (.slice r.l0.a r.l0.n r.l0.c) := blk_cell kb rfl
  have a10 : w.cell? ⟨b, 10, none⟩ = some (.int .i64 r.l0.i) := blk_cell kb rfl
  have a11 : w.cell? ⟨b, 11, none⟩ = some (.slice r.l1.a r.l1.n r.l1.c) := blk_cell kb rfl
  have a12 : w.cell? ⟨b, 12, none⟩ = some (.int .i64 r.l1.i) := blk_cell kb rfl
  have a13 : w.cell? ⟨b, 13, none⟩ = some (.slice r.l2.a r.l2.n r.l2.c) := blk_cell kb rfl
  have a14 : w.cell? ⟨b, 14, none⟩ = some (.int .i64 r.l2.i) := blk_cell kb rfl
  have a15 : w.cell? ⟨b, 15, none⟩ = some (.slice r.l3.a r.l3.n r.l3.c) := blk_cell kb rfl
  have a16 : w.cell? ⟨b, 16, none⟩ = some (.int .i64 r.l3.i) := blk_cell kb rfl
  clear kb
  go_enter Try.func144, Try.ntmps144
  go_wp2
  (refine wp_region_pre 21 [] [20] (by kernel_rfl) (by simp) (by kernel_rfl) (by kernel_rfl) (by kernel_rfl) ?_; simp only [List.take_succ_cons, List.take_zero]; apply Exists.intro)
  iterate 20 (apply lh_o; kernel_rfl; kernel_rfl; kernel_rfl; (intro W hW; have hWc := Grow.cells hW; go_simp; exact ⟨OneV.mk _, Grow.refl _⟩))
  (apply lh_new; kernel_rfl; kernel_rfl; kernel_rfl; (intro W hW; have hWc := Grow.cells hW; go_simp; exact ⟨NewAt.mk _ _ _ _, Grow.alloc _ _⟩); intro g hfr)
  refine lh_nil ?_
  intro W hW
  simp only [Act.put, List.setIfInBounds_toArray, List.set_cons_succ, List.set_cons_zero]
  (refine wpAny_step (i := 21) (by kernel_rfl) rfl rfl (fun K hK => ?_); go_simp; refine hK _ _ ?_; clear hK; try simp only [Act.put, List.setIfInBounds_toArray, List.set_cons_succ, List.set_cons_zero])
  refine wpAny_end (by kernel_rfl) ?_
  go_wp2
  go_ret
  exact ⟨_, rfl, hW.1, hW.2⟩
theorem c_rings4 (W : World) (g : Nat) (r : Rv) (h0 : FS W r.l0.a r.l0.n r.l0.c r.l0.xs) (h1 : FS W r.l1.a r.l1.n r.l1.c r.l1.xs) (h2 : FS W r.l2.a r.l2.n r.l2.c r.l2.xs) (h3 : FS W r.l3.a r.l3.n r.l3.c r.l3.xs) {T : TypeId} (hg : W.heap[g]? = some (.cells #[.slice r.l0.a r.l0.n r.l0.c, .int .i64 r.l0.i, .slice r.l1.a r.l1.n r.l1.c, .int .i64 r.l1.i, .slice r.l2.a r.l2.n r.l2.c, .int .i64 r.l2.i, .slice r.l3.a r.l3.n r.l3.c, .int .i64 r.l3.i] T)) :
    ∀ j, j < 4 → RAt W g (0 + j * 2) (rat [r.l0, r.l1, r.l2, r.l3] j)
  | 0, _ => ⟨cell_block hg _, cell_block hg _, h0⟩
  | 1, _ => ⟨cell_block hg _, cell_block hg _, h1⟩
  | 2, _ => ⟨cell_block hg _, cell_block hg _, h2⟩
  | 3, _ => ⟨cell_block hg _, cell_block hg _, h3⟩
  | k + 4, h => absurd h (by omega)
set_option maxRecDepth 100000 in
set_option maxHeartbeats 4000000 in
theorem c_l06Ok (b : Nat) (r : Rv) (w : World) {T : TypeId} (kb : w.heap[b]? = some (.cells r.cells T)) (h : RvM w r) :
    Calls Try.prog 110 #[.pointer (some ⟨b, 0, none⟩)] w (RetV (.bool (roomB r)) w) := by
  have N := Lib.hid h
  have hb := (Array.getElem?_eq_some_iff.1 kb).1
  have KB : Hid (∀ W, Below w.heap.size w W → W.heap[b]? = some (.cells r.cells T)) := fun W hW => (hW.block b hb).trans kb
  have K1 : Hid (∀ W g, Below w.heap.size w W → W.heap[g]? = some (.cells #[.slice r.e.a r.e.n r.e.c, .int .i64 r.e.i] 42) → Calls Try.prog 118 #[.slice (some ⟨g, 0, none⟩) 1 1] W (RetB (rokB r.e) W)) := fun W g hW hg => c_rings1 W g _ _ _ _ _ (h.q0.below hW (Nat.le_refl _)) hg
  have K2 : Hid (∀ W, Below w.heap.size w W → Calls Try.prog 151 #[.pointer (some ⟨b, 3, none⟩)] W (RetV (.bool (combB r.c0 r.g0)) W)) := fun W hW => c_l06Comb b 3 _ _ _ _ _ _ W (h.q1.below hW (Nat.le_refl _)) (Nat.lt_of_lt_of_le hb hW.size) (blk_cell (KB.out W hW) rfl) (blk_cell (KB.out W hW) rfl) (blk_cell (KB.out W hW) rfl)
  have K3 : Hid (∀ W, Below w.heap.size w W → Calls Try.prog 151 #[.pointer (some ⟨b, 6, none⟩)] W (RetV (.bool (combB r.c1 r.g1)) W)) := fun W hW => c_l06Comb b 6 _ _ _ _ _ _ W (h.q2.below hW (Nat.le_refl _)) (Nat.lt_of_lt_of_le hb hW.size) (blk_cell (KB.out W hW) rfl) (blk_cell (KB.out W hW) rfl) (blk_cell (KB.out W hW) rfl)
  have K4 : Hid (∀ W, Below w.heap.size w W → Calls Try.prog 144 #[.pointer (some ⟨b, 0, none⟩)] W (fun e w' => ∃ g, e = .returned (.slice (some ⟨g, 0, none⟩) 4 4) ∧ Below W.heap.size W w' ∧ w'.heap[g]? = some (.cells #[.slice r.l0.a r.l0.n r.l0.c, .int .i64 r.l0.i, .slice r.l1.a r.l1.n r.l1.c, .int .i64 r.l1.i, .slice r.l2.a r.l2.n r.l2.c, .int .i64 r.l2.i, .slice r.l3.a r.l3.n r.l3.c, .int .i64 r.l3.i] 42))) := fun W hW => c_l06Loops b r W (KB.out W hW)
  have K5 : Hid (∀ W g, Below w.heap.size w W → W.heap[g]? = some (.cells #[.slice r.l0.a r.l0.n r.l0.c, .int .i64 r.l0.i, .slice r.l1.a r.l1.n r.l1.c, .int .i64 r.l1.i, .slice r.l2.a r.l2.n r.l2.c, .int .i64 r.l2.i, .slice r.l3.a r.l3.n r.l3.c, .int .i64 r.l3.i] 42) → Calls Try.prog 118 #[.slice (some ⟨g, 0, none⟩) 4 4] W (RetB (rgsTo [r.l0, r.l1, r.l2, r.l3] 4) W)) := fun W g hW hg => c_l04Rings g 0 [r.l0, r.l1, r.l2, r.l3] 4 W (by simp) (c_rings4 W g r (h.q3.below hW (Nat.le_refl _)) (h.q4.below hW (Nat.le_refl _)) (h.q5.below hW (Nat.le_refl _)) (h.q6.below hW (Nat.le_refl _)) hg)
  have a0 : w.cell? ⟨b, 0, none⟩ = some (.slice r.e.a r.e.n r.e.c) := blk_cell kb rfl
  have a1 : w.cell? ⟨b, 1, none⟩ = some (.int .i64 r.e.i) := blk_cell kb rfl
  have KE := Lib.hid kb
  clear h kb
  cases f1 : rokB r.e
  · have e : roomB r = false := by unfold roomB; rw [f1]; simp
    rw [e]
    rw [f1] at K1
    clear e f1
    go_enter Try.func110, Try.ntmps110
    go_wp2_with fail
    refine (K1.out _ _ (by (repeat (first | (with_reducible refine Below.drewN ?_) | (with_reducible refine Below.drew ?_) | ((with_reducible refine Below.alloc ?_ ?_ _); rotate_left; (first | omega | (simp <;> omega))) | ((with_reducible refine Below.setCell ?_ ?_ _); rotate_left; (first | omega | (simp <;> omega))) | (with_reducible exact Below.refl _ _) | (with_reducible assumption)))) (MapKept.heap_alloc w _).1).mono ?_
    rintro e w' ⟨rfl, d1, rfl⟩
    go_wp2
    go_ret
    exact ⟨rfl, by (repeat (first | (with_reducible refine Below.drewN ?_) | (with_reducible refine Below.drew ?_) | ((with_reducible refine Below.alloc ?_ ?_ _); rotate_left; (first | omega | (simp <;> omega))) | ((with_reducible refine Below.setCell ?_ ?_ _); rotate_left; (first | omega | (simp <;> omega))) | (with_reducible exact Below.refl _ _) | (with_reducible assumption)))⟩
  rw [f1] at K1
  cases f2 : combB r.c0 r.g0
  · have e : roomB r = false := by unfold roomB; rw [f1, f2]; simp
    rw [e]
    rw [f2] at K2
    clear e f1 f2
    go_enter Try.func110, Try.ntmps110
    go_wp2_with fail
    refine (K1.out _ _ (by (repeat (first | (with_reducible refine Below.drewN ?_) | (with_reducible refine Below.drew ?_) | ((with_reducible refine Below.alloc ?_ ?_ _); rotate_left; (first | omega | (simp <;> omega))) | ((with_reducible refine Below.setCell ?_ ?_ _); rotate_left; (first | omega | (simp <;> omega))) | (with_reducible exact Below.refl _ _) | (with_reducible assumption)))) (MapKept.heap_alloc w _).1).mono ?_
    rintro e w' ⟨rfl, d1, rfl⟩
    go_wp2_with fail
    refine (K2.out _ (by (repeat (first | (with_reducible refine Below.drewN ?_) | (with_reducible refine Below.drew ?_) | ((with_reducible refine Below.alloc ?_ ?_ _); rotate_left; (first | omega | (simp <;> omega))) | ((with_reducible refine Below.setCell ?_ ?_ _); rotate_left; (first | omega | (simp <;> omega))) | (with_reducible exact Below.refl _ _) | (with_reducible assumption))))).mono ?_
    rintro e w2 ⟨rfl, hb2⟩
    have b2 : Below w.heap.size w w2 := Below.trans (by (repeat (first | (with_reducible refine Below.drewN ?_) | (with_reducible refine Below.drew ?_) | ((with_reducible refine Below.alloc ?_ ?_ _); rotate_left; (first | omega | (simp <;> omega))) | ((with_reducible refine Below.setCell ?_ ?_ _); rotate_left; (first | omega | (simp <;> omega))) | (with_reducible exact Below.refl _ _) | (with_reducible assumption)))) (hb2.mono (by simp))
    clear hb2
    go_wp2
    go_ret
    exact ⟨rfl, by (repeat (first | (with_reducible refine Below.drewN ?_) | (with_reducible refine Below.drew ?_) | ((with_reducible refine Below.alloc ?_ ?_ _); rotate_left; (first | omega | (simp <;> omega))) | ((with_reducible refine Below.setCell ?_ ?_ _); rotate_left; (first | omega | (simp <;> omega))) | (with_reducible exact Below.refl _ _) | (with_reducible assumption)))⟩
  rw [f2] at K2
  cases f3 : combB r.c1 r.g1
  · have e : roomB r = false := by unfold roomB; rw [f1, f2, f3]; simp
    rw [e]
    rw [f3] at K3
    clear e f1 f2 f3
    go_enter Try.func110, Try.ntmps110
    go_wp2_with fail
    refine (K1.out _ _ (by (repeat (first | (with_reducible refine Below.drewN ?_) | (with_reducible refine Below.drew ?_) | ((with_reducible refine Below.alloc ?_ ?_ _); rotate_left; (first | omega | (simp <;> omega))) | ((with_reducible refine Below.setCell ?_ ?_ _); rotate_left; (first | omega | (simp <;> omega))) | (with_reducible exact Below.refl _ _) | (with_reducible assumption)))) (MapKept.heap_alloc w _).1).mono ?_
    rintro e w' ⟨rfl, d1, rfl⟩
    go_wp2_with fail
    refine (K2.out _ (by (repeat (first | (with_reducible refine Below.drewN ?_) | (with_reducible refine Below.drew ?_) | ((with_reducible refine Below.alloc ?_ ?_ _); rotate_left; (first | omega | (simp <;> omega))) | ((with_reducible refine Below.setCell ?_ ?_ _); rotate_left; (first | omega | (simp <;> omega))) | (with_reducible exact Below.refl _ _) | (with_reducible assumption))))).mono ?_
    rintro e w2 ⟨rfl, hb2⟩
    have b2 : Below w.heap.size w w2 := Below.trans (by (repeat (first | (with_reducible refine Below.drewN ?_) | (with_reducible refine Below.drew ?_) | ((with_reducible refine Below.alloc ?_ ?_ _); rotate_left; (first | omega | (simp <;> omega))) | ((with_reducible refine Below.setCell ?_ ?_ _); rotate_left; (first | omega | (simp <;> omega))) | (with_reducible exact Below.refl _ _) | (with_reducible assumption)))) (hb2.mono (by simp))
    clear hb2
    go_wp2_with fail
    refine (K3.out _ b2).mono ?_
    rintro e w3 ⟨rfl, hb3⟩
    have b3 : Below w.heap.size w w3 := b2.trans (hb3.mono b2.size)
    clear hb3
    go_wp2
    go_ret
    exact ⟨rfl, by (repeat (first | (with_reducible refine Below.drewN ?_) | (with_reducible refine Below.drew ?_) | ((with_reducible refine Below.alloc ?_ ?_ _); rotate_left; (first | omega | (simp <;> omega))) | ((with_reducible refine Below.setCell ?_ ?_ _); rotate_left; (first | omega | (simp <;> omega))) | (with_reducible exact Below.refl _ _) | (with_reducible assumption)))⟩
  rw [f3] at K3
  cases f4 : rgsTo [r.l0, r.l1, r.l2, r.l3] 4
  · have e : roomB r = false := by unfold roomB; rw [f1, f2, f3, f4]; simp
    rw [e]
    rw [f4] at K5
    clear e f1 f2 f3 f4
    go_enter Try.func110, Try.ntmps110
    go_wp2_with fail
    refine (K1.out _ _ (by (repeat (first | (with_reducible refine Below.drewN ?_) | (with_reducible refine Below.drew ?_) | ((with_reducible refine Below.alloc ?_ ?_ _); rotate_left; (first | omega | (simp <;> omega))) | ((with_reducible refine Below.setCell ?_ ?_ _); rotate_left; (first | omega | (simp <;> omega))) | (with_reducible exact Below.refl _ _) | (with_reducible assumption)))) (MapKept.heap_alloc w _).1).mono ?_
    rintro e w' ⟨rfl, d1, rfl⟩
    go_wp2_with fail
    refine (K2.out _ (by (repeat (first | (with_reducible refine Below.drewN ?_) | (with_reducible refine Below.drew ?_) | ((with_reducible refine Below.alloc ?_ ?_ _); rotate_left; (first | omega | (simp <;> omega))) | ((with_reducible refine Below.setCell ?_ ?_ _); rotate_left; (first | omega | (simp <;> omega))) | (with_reducible exact Below.refl _ _) | (with_reducible assumption))))).mono ?_
    rintro e w2 ⟨rfl, hb2⟩
    have b2 : Below w.heap.size w w2 := Below.trans (by (repeat (first | (with_reducible refine Below.drewN ?_) | (with_reducible refine Below.drew ?_) | ((with_reducible refine Below.alloc ?_ ?_ _); rotate_left; (first | omega | (simp <;> omega))) | ((with_reducible refine Below.setCell ?_ ?_ _); rotate_left; (first | omega | (simp <;> omega))) | (with_reducible exact Below.refl _ _) | (with_reducible assumption)))) (hb2.mono (by simp))
    clear hb2
    go_wp2_with fail
    refine (K3.out _ b2).mono ?_
    rintro e w3 ⟨rfl, hb3⟩
    have b3 : Below w.heap.size w w3 := b2.trans (hb3.mono b2.size)
    clear hb3
    go_wp2_with fail
    refine (K4.out _ b3).mono ?_
    rintro e w4 ⟨g4, rfl, hb4, hg4⟩
    have b4 : Below w.heap.size w w4 := b3.trans (hb4.mono b3.size)
    clear hb4
    go_wp2_with fail
    refine (K5.out _ _ b4 hg4).mono ?_
    rintro e w' ⟨rfl, d5, rfl⟩
    have a2 : w4.cell? ⟨b, 2, none⟩ = some (.slice r.ta r.tn r.tc) := blk_cell (KB.out _ b4) rfl
    clear hg4
    go_wp2
    go_ret
    exact ⟨rfl, by (repeat (first | (with_reducible refine Below.drewN ?_) | (with_reducible refine Below.drew ?_) | ((with_reducible refine Below.alloc ?_ ?_ _); rotate_left; (first | omega | (simp <;> omega))) | ((with_reducible refine Below.setCell ?_ ?_ _); rotate_left; (first | omega | (simp <;> omega))) | (with_reducible exact Below.refl _ _) | (with_reducible assumption)))⟩
  rw [f4] at K5
  have mt : r.tn ≤ 9223372036854775807 := Nat.le_trans N.out.t.cap N.out.t.big
  by_cases f5 : (6 : Int) < r.tn
  · have e : roomB r = false := by unfold roomB; rw [decide_eq_false (show ¬ ((r.tn : Int) ≤ 6) by omega)]; simp
    rw [e]
    clear e f1 f2 f3 f4
    go_enter Try.func110, Try.ntmps110
    go_wp2_with fail
    refine (K1.out _ _ (by (repeat (first | (with_reducible refine Below.drewN ?_) | (with_reducible refine Below.drew ?_) | ((with_reducible refine Below.alloc ?_ ?_ _); rotate_left; (first | omega | (simp <;> omega))) | ((with_reducible refine Below.setCell ?_ ?_ _); rotate_left; (first | omega | (simp <;> omega))) | (with_reducible exact Below.refl _ _) | (with_reducible assumption)))) (MapKept.heap_alloc w _).1).mono ?_
    rintro e w' ⟨rfl, d1, rfl⟩
    go_wp2_with fail
    refine (K2.out _ (by (repeat (first | (with_reducible refine Below.drewN ?_) | (with_reducible refine Below.drew ?_) | ((with_reducible refine Below.alloc ?_ ?_ _); rotate_left; (first | omega | (simp <;> omega))) | ((with_reducible refine Below.setCell ?_ ?_ _); rotate_left; (first | omega | (simp <;> omega))) | (with_reducible exact Below.refl _ _) | (with_reducible assumption))))).mono ?_
    rintro e w2 ⟨rfl, hb2⟩
    have b2 : Below w.heap.size w w2 := Below.trans (by (repeat (first | (with_reducible refine Below.drewN ?_) | (with_reducible refine Below.drew ?_) | ((with_reducible refine Below.alloc ?_ ?_ _); rotate_left; (first | omega | (simp <;> omega))) | ((with_reducible refine Below.setCell ?_ ?_ _); rotate_left; (first | omega | (simp <;> omega))) | (with_reducible exact Below.refl _ _) | (with_reducible assumption)))) (hb2.mono (by simp))
    clear hb2
    go_wp2_with fail
    refine (K3.out _ b2).mono ?_
    rintro e w3 ⟨rfl, hb3⟩
    have b3 : Below w.heap.size w w3 := b2.trans (hb3.mono b2.size)
    clear hb3
    go_wp2_with fail
    refine (K4.out _ b3).mono ?_
    rintro e w4 ⟨g4, rfl, hb4, hg4⟩
    have b4 : Below w.heap.size w w4 := b3.trans (hb4.mono b3.size)
    clear hb4
    go_wp2_with fail
    refine (K5.out _ _ b4 hg4).mono ?_
    rintro e w' ⟨rfl, d5, rfl⟩
    have a2 : w4.cell? ⟨b, 2, none⟩ = some (.slice r.ta r.tn r.tc) := blk_cell (KB.out _ b4) rfl
    clear hg4
    go_wp2
    go_ret
    exact ⟨rfl, by (repeat (first | (with_reducible refine Below.drewN ?_) | (with_reducible refine Below.drew ?_) | ((with_reducible refine Below.alloc ?_ ?_ _); rotate_left; (first | omega | (simp <;> omega))) | ((with_reducible refine Below.setCell ?_ ?_ _); rotate_left; (first | omega | (simp <;> omega))) | (with_reducible exact Below.refl _ _) | (with_reducible assumption)))⟩
  have eR : roomB r = (dTo r 4 && (tapTo r.ts r.e.n r.tn && finTo [r.h0, r.h1, r.h2, r.h3, r.dry, r.wet] 6)) := by
    unfold roomB; rw [f1, f2, f3, f4, decide_eq_true (show (r.tn : Int) ≤ 6 by omega)]; rfl
  rw [eR]
  clear eR f1 f2 f3 f4
  go_enter Try.func110, Try.ntmps110
  go_wp2_with fail
  refine (K1.out _ _ (by (repeat (first | (with_reducible refine Below.drewN ?_) | (with_reducible refine Below.drew ?_) | ((with_reducible refine Below.alloc ?_ ?_ _); rotate_left; (first | omega | (simp <;> omega))) | ((with_reducible refine Below.setCell ?_ ?_ _); rotate_left; (first | omega | (simp <;> omega))) | (with_reducible exact Below.refl _ _) | (with_reducible assumption)))) (MapKept.heap_alloc w _).1).mono ?_
  rintro e w' ⟨rfl, d1, rfl⟩
  go_wp2_with fail
  refine (K2.out _ (by (repeat (first | (with_reducible refine Below.drewN ?_) | (with_reducible refine Below.drew ?_) | ((with_reducible refine Below.alloc ?_ ?_ _); rotate_left; (first | omega | (simp <;> omega))) | ((with_reducible refine Below.setCell ?_ ?_ _); rotate_left; (first | omega | (simp <;> omega))) | (with_reducible exact Below.refl _ _) | (with_reducible assumption))))).mono ?_
  rintro e w2 ⟨rfl, hb2⟩
  have b2 : Below w.heap.size w w2 := Below.trans (by (repeat (first | (with_reducible refine Below.drewN ?_) | (with_reducible refine Below.drew ?_) | ((with_reducible refine Below.alloc ?_ ?_ _); rotate_left; (first | omega | (simp <;> omega))) | ((with_reducible refine Below.setCell ?_ ?_ _); rotate_left; (first | omega | (simp <;> omega))) | (with_reducible exact Below.refl _ _) | (with_reducible assumption)))) (hb2.mono (by simp))
  clear hb2
  go_wp2_with fail
  refine (K3.out _ b2).mono ?_
  rintro e w3 ⟨rfl, hb3⟩
  have b3 : Below w.heap.size w w3 := b2.trans (hb3.mono b2.size)
  clear hb3
  go_wp2_with fail
  refine (K4.out _ b3).mono ?_
  rintro e w4 ⟨g4, rfl, hb4, hg4⟩
  have b4 : Below w.heap.size w w4 := b3.trans (hb4.mono b3.size)
  clear hb4
  go_wp2_with fail
  refine (K5.out _ _ b4 hg4).mono ?_
  rintro e w' ⟨rfl, d5, rfl⟩
  have a2 : w4.cell? ⟨b, 2, none⟩ = some (.slice r.ta r.tn r.tc) := blk_cell (KB.out _ b4) rfl
  clear hg4
  go_upto_region 3 with fail
  refine wp_named ?_
  intro W0 hW0
  have bW : Below w.heap.size w W0 := by rw [hW0]; (repeat (first | (with_reducible refine Below.drewN ?_) | (with_reducible refine Below.drew ?_) | ((with_reducible refine Below.alloc ?_ ?_ _); rotate_left; (first | omega | (simp <;> omega))) | ((with_reducible refine Below.setCell ?_ ?_ _); rotate_left; (first | omega | (simp <;> omega))) | (with_reducible exact Below.refl _ _) | (with_reducible assumption)))
  clear hW0 a2 b2 b3 b4 a0 a1 K1 K2 K3 K4 K5
  have kb := KB.out _ bW
  have BW := Lib.hid bW
  have hb0 : b < W0.heap.size := Nat.lt_of_lt_of_le hb bW.size
  have kbW := Lib.hid kb
  clear bW kb
  go_wp2
  go_loopw [3] (fun i wr => ∃ k : Nat, k ≤ 4 ∧ i = .int .i64 k ∧ Hid (dTo r k = true) ∧ ∃ q, wr = W0.drewN q) (fun i _ => 4 - (intOf i).toNat)
  case atStart => exact ⟨0, by omega, rfl, rfl, same0 _⟩
  case round =>
    obtain ⟨k, hk, rfl, hall, q, rfl⟩ := hrel
    by_cases hlt : k < 4
    · have x0 := (d_cells kbW.out k hlt).1
      have KD : Hid (∀ m, Calls Try.prog 119 #[.pointer (some ⟨b, 17 + k * 6, none⟩)] (W0.drewN m) (RetB (okF (r.d k).k [(r.d k).f0, (r.d k).f1, (r.d k).f2] [(r.d k).f3, (r.d k).f4]) (W0.drewN m))) := fun m => c_l02OkD (w := W0.drewN m) kbW.out hlt
      have hD : dkB (r.d k) = (okF (r.d k).k [(r.d k).f0, (r.d k).f1, (r.d k).f2] [(r.d k).f3, (r.d k).f4] && ((r.d k).k == 1)) := rfl
      have hT : dTo r (k + 1) = (dTo r k && dkB (r.d k)) := rfl
      cases o1 : okF (r.d k).k [(r.d k).f0, (r.d k).f1, (r.d k).f2] [(r.d k).f3, (r.d k).f4]
      · rw [o1] at KD
        have HU := Lib.hid (dTo_false (r := r) (k := k) (by rw [hD, o1]; rfl) 4 hlt)
        clear o1 hD hT
        go_wp2_with fail
        refine (KD.out _).mono ?_
        rintro e w' ⟨rfl, d7, rfl⟩
        have bE := BW.out
        go_wp2
        go_ret
        exact ⟨by rw [HU.out]; rfl, by (repeat (first | (with_reducible refine Below.drewN ?_) | (with_reducible refine Below.drew ?_) | ((with_reducible refine Below.alloc ?_ ?_ _); rotate_left; (first | omega | (simp <;> omega))) | ((with_reducible refine Below.setCell ?_ ?_ _); rotate_left; (first | omega | (simp <;> omega))) | (with_reducible exact Below.refl _ _) | (with_reducible assumption)))⟩
      rw [o1] at KD
      cases o2 : ((r.d k).k == 1)
      · have HU := Lib.hid (dTo_false (r := r) (k := k) (by rw [hD, o2, Bool.and_false]) 4 hlt)
        have o2' : ((r.d k).k != 1) = true := by rw [bne, o2]; rfl
        clear o1 hD hT
        go_wp2_with fail
        refine (KD.out _).mono ?_
        rintro e w' ⟨rfl, d7, rfl⟩
        have bE := BW.out
        go_wp2
        go_ret
        exact ⟨by rw [HU.out]; rfl, by (repeat (first | (with_reducible refine Below.drewN ?_) | (with_reducible refine Below.drew ?_) | ((with_reducible refine Below.alloc ?_ ?_ _); rotate_left; (first | omega | (simp <;> omega))) | ((with_reducible refine Below.setCell ?_ ?_ _); rotate_left; (first | omega | (simp <;> omega))) | (with_reducible exact Below.refl _ _) | (with_reducible assumption)))⟩
      have o2' : ((r.d k).k != 1) = false := by rw [bne, o2]; rfl
      have HU : Hid (dTo r (k + 1) = true) := by rw [hT, hall.out, hD, o1, o2]; rfl
      clear o1 hD hT
      go_wp2_with fail
      refine (KD.out _).mono ?_
      rintro e w' ⟨rfl, d7, rfl⟩
      go_wp2
      go_roundw
      case rel => exact ⟨k + 1, by omega, by go_num, HU, (by first | exact same1 _ _ | exact ⟨_, by rw [World.drewN_drewN]⟩)⟩
      case measure => simp [intOf]; omega
    · obtain rfl : k = 4 := by omega
      have HD := Lib.hid hall.out
      clear hall
      have a0 : W0.cell? ⟨b, 0, none⟩ = some (.slice r.e.a r.e.n r.e.c) := blk_cell kbW.out rfl
      have a2 : W0.cell? ⟨b, 2, none⟩ = some (.slice r.ta r.tn r.tc) := blk_cell kbW.out rfl
      have HT := Lib.hid ((N.out.t.below BW.out (Nat.le_refl _)).at_)
      have ne : r.e.n ≤ 9223372036854775807 := Nat.le_trans N.out.q0.cap N.out.q0.big
      go_wp2
      go_loopw [4] (fun i wr => ∃ k : Nat, k ≤ r.tn ∧ i = .int .i64 k ∧ Hid (tapTo r.ts r.e.n k = true) ∧ ∃ q, wr = W0.drewN q) (fun i _ => r.tn - (intOf i).toNat)
      case atStart => exact ⟨0, by omega, rfl, rfl, same1 _ _⟩
      case round =>
        obtain ⟨k, hk, rfl, hall, q3, hwr⟩ := hrel
        by_cases hlt : k < r.tn
        · subst hwr
          obtain ⟨bt, ot, hta, hbt, hct⟩ := HT.out (by omega)
          have x0 := (hct k hlt).1
          have x1 := (hct k hlt).2
          rw [hta] at a2
          have hD : tapB (tat r.ts k) r.e.n = (inB (tat r.ts k).1 1 r.e.n && finB (tat r.ts k).2) := rfl
          have hT : tapTo r.ts r.e.n (k + 1) = (tapTo r.ts r.e.n k && tapB (tat r.ts k) r.e.n) := rfl
          have KI : Hid (∀ m, Calls Try.prog 61 #[.int .i64 (tat r.ts k).1, .int .i64 1, .int .i64 r.e.n] (W0.drewN m) (RetB (inB (tat r.ts k).1 1 r.e.n) (W0.drewN m))) := fun m => c_l00In _ _ _ _
          have KF : Hid (∀ m, Calls Try.prog 60 #[.float .f32 (tat r.ts k).2] (W0.drewN m) (RetB (finB (tat r.ts k).2) (W0.drewN m))) := fun m => c_l01Finite _ _
          clear hct hta
          cases o1 : inB (tat r.ts k).1 1 r.e.n
          · rw [o1] at KI
            have HU := Lib.hid (tapTo_false (ts := r.ts) (m := r.e.n) (k := k) (by rw [hD, o1]; rfl) r.tn hlt)
            clear o1 hD hT KF
            go_wp2
            refine wp_region_sets' (by kernel_rfl) (by kernel_rfl) ?_
            apply Exists.intro
            iterate 14 (apply lx_want; kernel_rfl; (intro n; go_simp; exact ⟨OneV.mk _, _, (by first | rfl | exact congrArg _ (Nat.add_assoc _ _ _))⟩); rintro _ rfl)
            (apply lx_want; kernel_rfl; (intro n; go_simp; first | exact lx_callV (KI.out _) | exact lx_callV2 (KI.out _)); rintro _ rfl)
            iterate 2 (apply lx_want; kernel_rfl; (intro n; go_simp; exact ⟨OneV.mk _, _, (by first | rfl | exact congrArg _ (Nat.add_assoc _ _ _))⟩); rintro _ rfl)
            iterate 10 (apply lx_skip; kernel_rfl)
            (apply lx_want; kernel_rfl; (intro n; go_simp; exact ⟨OneV.mk _, _, (by first | rfl | exact congrArg _ (Nat.add_assoc _ _ _))⟩); rintro _ rfl)
            (refine lx_nil (Vl := []) ?_; intro n; simp only [Act.put, List.setIfInBounds_toArray, List.set_cons_succ, List.set_cons_zero])
            have bE := BW.out
            go_wp2
            go_ret
            exact ⟨by rw [HD.out, HU.out]; rfl, by (repeat (first | (with_reducible refine Below.drewN ?_) | (with_reducible refine Below.drew ?_) | ((with_reducible refine Below.alloc ?_ ?_ _); rotate_left; (first | omega | (simp <;> omega))) | ((with_reducible refine Below.setCell ?_ ?_ _); rotate_left; (first | omega | (simp <;> omega))) | (with_reducible exact Below.refl _ _) | (with_reducible assumption)))⟩
          rw [o1] at KI
          cases o2 : finB (tat r.ts k).2
          · rw [o2] at KF
            have HU := Lib.hid (tapTo_false (ts := r.ts) (m := r.e.n) (k := k) (by rw [hD, o2, Bool.and_false]) r.tn hlt)
            clear o1 o2 hD hT
            go_wp2
            refine wp_region_sets' (by kernel_rfl) (by kernel_rfl) ?_
            apply Exists.intro
            iterate 14 (apply lx_want; kernel_rfl; (intro n; go_simp; exact ⟨OneV.mk _, _, (by first | rfl | exact congrArg _ (Nat.add_assoc _ _ _))⟩); rintro _ rfl)
            (apply lx_want; kernel_rfl; (intro n; go_simp; first | exact lx_callV (KI.out _) | exact lx_callV2 (KI.out _)); rintro _ rfl)
            iterate 10 (apply lx_want; kernel_rfl; (intro n; go_simp; exact ⟨OneV.mk _, _, (by first | rfl | exact congrArg _ (Nat.add_assoc _ _ _))⟩); rintro _ rfl)
            (apply lx_want; kernel_rfl; (intro n; go_simp; first | exact lx_callV (KF.out _) | exact lx_callV2 (KF.out _)); rintro _ rfl)
            iterate 2 (apply lx_want; kernel_rfl; (intro n; go_simp; exact ⟨OneV.mk _, _, (by first | rfl | exact congrArg _ (Nat.add_assoc _ _ _))⟩); rintro _ rfl)
            (refine lx_nil (Vl := []) ?_; intro n; simp only [Act.put, List.setIfInBounds_toArray, List.set_cons_succ, List.set_cons_zero])
            have bE := BW.out
            go_wp2
            go_ret
            exact ⟨by rw [HD.out, HU.out]; rfl, by (repeat (first | (with_reducible refine Below.drewN ?_) | (with_reducible refine Below.drew ?_) | ((with_reducible refine Below.alloc ?_ ?_ _); rotate_left; (first | omega | (simp <;> omega))) | ((with_reducible refine Below.setCell ?_ ?_ _); rotate_left; (first | omega | (simp <;> omega))) | (with_reducible exact Below.refl _ _) | (with_reducible assumption)))⟩
          rw [o2] at KF
          have HU : Hid (tapTo r.ts r.e.n (k + 1) = true) := by rw [hT, hall.out, hD, o1, o2]; rfl
          clear o1 o2 hD hT
          go_wp2
          refine wp_region_sets' (by kernel_rfl) (by kernel_rfl) ?_
          apply Exists.intro
          iterate 14 (apply lx_want; kernel_rfl; (intro n; go_simp; exact ⟨OneV.mk _, _, (by first | rfl | exact congrArg _ (Nat.add_assoc _ _ _))⟩); rintro _ rfl)
          (apply lx_want; kernel_rfl; (intro n; go_simp; first | exact lx_callV (KI.out _) | exact lx_callV2 (KI.out _)); rintro _ rfl)
          iterate 10 (apply lx_want; kernel_rfl; (intro n; go_simp; exact ⟨OneV.mk _, _, (by first | rfl | exact congrArg _ (Nat.add_assoc _ _ _))⟩); rintro _ rfl)
          (apply lx_want; kernel_rfl; (intro n; go_simp; first | exact lx_callV (KF.out _) | exact lx_callV2 (KF.out _)); rintro _ rfl)
          iterate 2 (apply lx_want; kernel_rfl; (intro n; go_simp; exact ⟨OneV.mk _, _, (by first | rfl | exact congrArg _ (Nat.add_assoc _ _ _))⟩); rintro _ rfl)
          (refine lx_nil (Vl := []) ?_; intro n; simp only [Act.put, List.setIfInBounds_toArray, List.set_cons_succ, List.set_cons_zero])
          go_wp2
          go_roundw
          case rel => exact ⟨k + 1, by omega, by go_num, HU, (by first | exact same1 _ _ | exact ⟨_, by rw [World.drewN_drewN]⟩)⟩
          case measure => simp [intOf]; omega
        · obtain rfl : k = r.tn := by omega
          have HA := Lib.hid hall.out
          have bW : Below w.heap.size w wr := by rw [hwr]; exact Below.drewN BW.out
          have kb3 : wr.heap[b]? = some (.cells r.cells T) := by rw [hwr]; exact kbW.out
          have hb3 : b < wr.heap.size := by rw [hwr]; exact hb0
          have c2 : wr.cell? ⟨b, 2, none⟩ = some (.slice r.ta r.tn r.tc) := blk_cell kb3 rfl
          have c41 : wr.cell? ⟨b, 41, none⟩ = some (.float .f32 r.h0) := blk_cell kb3 rfl
          have c42 : wr.cell? ⟨b, 42, none⟩ = some (.float .f32 r.h1) := blk_cell kb3 rfl
          have c43 : wr.cell? ⟨b, 43, none⟩ = some (.float .f32 r.h2) := blk_cell kb3 rfl
          have c44 : wr.cell? ⟨b, 44, none⟩ = some (.float .f32 r.h3) := blk_cell kb3 rfl
          have c45 : wr.cell? ⟨b, 45, none⟩ = some (.float .f32 r.dry) := blk_cell kb3 rfl
          have c46 : wr.cell? ⟨b, 46, none⟩ = some (.float .f32 r.wet) := blk_cell kb3 rfl
          have BE := Lib.hid bW
          clear hwr a0 a2 hall kb3 bW hb hb0 HT
          have K7 : Hid (∀ W g, W.heap[g]? = some (.cells #[.float .f32 r.h0, .float .f32 r.h1, .float .f32 r.h2, .float .f32 r.h3, .float .f32 r.dry, .float .f32 r.wet] 24) → Calls Try.prog 120 #[.slice (some ⟨g, 0, none⟩) 6 6] W (RetB (finTo [r.h0, r.h1, r.h2, r.h3, r.dry, r.wet] 6) W)) := fun W g hg => c_nums6 W g _ _ _ _ _ _ hg
          go_wp2
          refine wp_region_grow [29] [28] (by kernel_rfl) (by kernel_rfl) (by kernel_rfl) ?_
          apply Exists.intro
          iterate 28 (apply lh_o; kernel_rfl; kernel_rfl; kernel_rfl; (intro W hW; have hWc := Grow.cells hW; go_simp; exact ⟨OneV.mk _, Grow.refl _⟩))
          (apply lh_new; kernel_rfl; kernel_rfl; kernel_rfl; (intro W hW; have hWc := Grow.cells hW; go_simp; exact ⟨NewAt.mk _ _ _ _, Grow.alloc _ _⟩); intro g hfr)
          (apply lh_h; kernel_rfl; kernel_rfl; kernel_rfl; (intro W hW; go_simp; first | exact gB (K7.out _ _ hW.2) | exact gV (K7.out _ _ hW.2)))
          (apply lh_o; kernel_rfl; kernel_rfl; kernel_rfl; (intro W hW; have hWc := Grow.cells hW; go_simp; exact ⟨OneV.mk _, Grow.refl _⟩))
          (refine lh_nil ?_; intro W hW; simp only [Act.put, List.setIfInBounds_toArray, List.set_cons_succ, List.set_cons_zero])
          go_wp2
          go_ret
          exact ⟨by rw [HD.out, HA.out]; rfl, BE.out.trans (Below.mono hW.1 BE.out.size)⟩
theorem c_sValidRoom (r : Rv) (w : World) (h : RvM w r) : Calls Try.prog 37 #[.agg r.cells] w (RetV (.bool (roomB r)) w) := by
  have N := Lib.hid h
  clear h
  go_enter Try.func37, Try.ntmps37
  go_wp2_with fail
  refine (c_l06Ok _ r _ (MapKept.heap_alloc w _).1 (RvM.below (B := w.heap.size) N.out (by (repeat (first | (with_reducible refine Below.drewN ?_) | (with_reducible refine Below.drew ?_) | ((with_reducible refine Below.alloc ?_ ?_ _); rotate_left; (first | omega | (simp <;> omega))) | ((with_reducible refine Below.setCell ?_ ?_ _); rotate_left; (first | omega | (simp <;> omega))) | (with_reducible exact Below.refl _ _) | (with_reducible assumption)))) (Nat.le_refl _))).mono ?_
  rintro e w1 ⟨rfl, hb1⟩
  have b1 : Below w.heap.size w w1 := Below.trans (by (repeat (first | (with_reducible refine Below.drewN ?_) | (with_reducible refine Below.drew ?_) | ((with_reducible refine Below.alloc ?_ ?_ _); rotate_left; (first | omega | (simp <;> omega))) | ((with_reducible refine Below.setCell ?_ ?_ _); rotate_left; (first | omega | (simp <;> omega))) | (with_reducible exact Below.refl _ _) | (with_reducible assumption)))) (hb1.mono (by simp))
  go_wp2
  go_ret
  exact ⟨rfl, b1⟩
theorem roomB_strip (r : Rv) : roomB r.strip = roomB r := rfl
end Go.Proofs.Ytfhegjjgfaeinaa
