
/-
The reference's test of pipes.
-/
import Derived.Test.YtfhegjjgfaeinaaQu
import Derived.Test.YtfhegjjgfaeinaaRa
namespace Go.Proofs.Ytfhegjjgfaeinaa
open Go Go.RowKit Fl
theorem RS.drawN {w : World} {a : Option Addr} {n c k : Nat} {rs : List Rg} (h : RS w a n c rs) : RS (w.drewN k) a n c rs := h.draw
/-- the first k numbers are between -1 and 1 -/
def scTo (xs : List Nat) : Nat → Bool
  | 0 => true
  | k + 1 => scTo xs k && insB (nth xs k) 3212836864 1065353216
theorem scTo_false {xs : List Nat} {k : Nat} (h : insB (nth xs k) 3212836864 1065353216 = false) : ∀ n, k < n → scTo xs n = false
  | 0, hn => absurd hn (by omega)
  | n + 1, hn => by
    by_cases e : k = n
    · subst e; rw [scTo, h, Bool.and_false]
    · rw [scTo, scTo_false h n (by omega), Bool.false_and]
/-- the first k rings of both lists have as many samples -/
def lenTo (rs ss : List Rg) : Nat → Bool
  | 0 => true
  | k + 1 => lenTo rs ss k && decide (((rat rs k).n : Int) = (rat ss k).n)
theorem lenTo_false {rs ss : List Rg} {k : Nat} (h : ¬ ((rat rs k).n : Int) = (rat ss k).n) : ∀ n, k < n → lenTo rs ss n = false
  | 0, hn => absurd hn (by omega)
  | n + 1, hn => by
    by_cases e : k = n
    · subst e; rw [lenTo, decide_eq_false h, Bool.and_false]
    · rw [lenTo, lenTo_false h n (by omega), Bool.false_and]
/-- the numbers of a pipe -/
structure Pn where
  k : Int
  f0 : Nat
  f1 : Nat
  f2 : Nat
  f3 : Nat
  f4 : Nat
  x1 : Nat
  x2 : Nat
  x3 : Nat
/-- is a pipe valid -/
def pipeB (n1 : Nat) (rs1 : List Rg) (n2 : Nat) (rs2 : List Rg) (n3 : Nat) (xs3 : List Nat) (p : Pn) : Bool :=
  inB n1 1 3 && (decide ((n2 : Int) = n1) && (decide ((n3 : Int) = n1 - 1) && (rgsTo rs1 n1 && (rgsTo rs2 n1 && (lenTo rs1 rs2 n1 && (scTo xs3 n3 && (okF p.k [p.f0, p.f1, p.f2] [p.f3, p.f4] && ((p.k == 1) && finTo [p.x1, p.x2, p.x3] 3))))))))
/-- a pipe in a box -/
structure PBox (w : World) (b : Nat) (a1 : Option Addr) (n1 c1 : Nat) (a2 : Option Addr) (n2 c2 : Nat) (a3 : Option Addr) (n3 c3 : Nat) (p : Pn) : Prop where
  e0 : w.cell? ⟨b, 0, none⟩ = some (.slice a1 n1 c1)
  e1 : w.cell? ⟨b, 1, none⟩ = some (.slice a2 n2 c2)
  e2 : w.cell? ⟨b, 2, none⟩ = some (.slice a3 n3 c3)
  e3 : w.cell? ⟨b, 3, none⟩ = some (.int .i64 p.k)
  e4 : w.cell? ⟨b, 4, none⟩ = some (.float .f32 p.f0)
  e5 : w.cell? ⟨b, 5, none⟩ = some (.float .f32 p.f1)
  e6 : w.cell? ⟨b, 6, none⟩ = some (.float .f32 p.f2)
  e7 : w.cell? ⟨b, 7, none⟩ = some (.float .f32 p.f3)
  e8 : w.cell? ⟨b, 8, none⟩ = some (.float .f32 p.f4)
  e10 : w.cell? ⟨b, 10, none⟩ = some (.float .f32 p.x1)
  e11 : w.cell? ⟨b, 11, none⟩ = some (.float .f32 p.x2)
  e12 : w.cell? ⟨b, 12, none⟩ = some (.float .f32 p.x3)
theorem PBox.below {w w' : World} {b : Nat} {a1 : Option Addr} {n1 c1 : Nat} {a2 : Option Addr} {n2 c2 : Nat} {a3 : Option Addr} {n3 c3 : Nat} {p : Pn} (h : PBox w b a1 n1 c1 a2 n2 c2 a3 n3 c3 p) (hb : Below w.heap.size w w') (hlt : b < w.heap.size) : PBox w' b a1 n1 c1 a2 n2 c2 a3 n3 c3 p := by
  have hc := (bcell hb).1
  exact ⟨(hc _ _ hlt).trans h.e0, (hc _ _ hlt).trans h.e1, (hc _ _ hlt).trans h.e2, (hc _ _ hlt).trans h.e3, (hc _ _ hlt).trans h.e4, (hc _ _ hlt).trans h.e5, (hc _ _ hlt).trans h.e6, (hc _ _ hlt).trans h.e7, (hc _ _ hlt).trans h.e8, (hc _ _ hlt).trans h.e10, (hc _ _ hlt).trans h.e11, (hc _ _ hlt).trans h.e12⟩
theorem c_nums3 (W : World) (g : Nat) (x1 x2 x3 : Nat) {T : TypeId} (hg : W.heap[g]? = some (.cells #[.float .f32 x1, .float .f32 x2, .float .f32 x3] T)) :
    Calls Try.prog 120 #[.slice (some ⟨g, 0, none⟩) 3 3] W (RetB (finTo [x1, x2, x3] 3) W) :=
  c_l04All _ 3 3 [x1, x2, x3] W ⟨rfl, Nat.le_refl _, by omega, fun _ => ⟨g, 0, rfl, (Array.getElem?_eq_some_iff.1 hg).1, three _ (cell_block hg _) (cell_block hg _) (cell_block hg _)⟩⟩
theorem c_l04RingsS (a : Option Addr) (n c : Nat) (rs : List Rg) (w : World) (h : RS w a n c rs) (h0 : 0 < n) (hs : n ≤ 1048576) :
    Calls Try.prog 118 #[.slice a n c] w (RetB (rgsTo rs n) w) := by
  obtain ⟨b, o, rfl, hbl, hc⟩ := h.at_ h0
  have hl := h.len
  subst hl
  exact c_l04Rings b o rs c w hs hc
set_option maxRecDepth 100000 in
set_option maxHeartbeats 4000000 in
theorem c_l04Ok (b : Nat) (a1 : Option Addr) (n1 c1 : Nat) (rs1 : List Rg) (a2 : Option Addr) (n2 c2 : Nat) (rs2 : List Rg) (a3 : Option Addr) (n3 c3 : Nat) (xs3 : List Nat) (p : Pn) (w : World) (hp : PBox w b a1 n1 c1 a2 n2 c2 a3 n3 c3 p) (hb : b < w.heap.size) (h1 : RS w a1 n1 c1 rs1) (h2 : RS w a2 n2 c2 rs2) (h3 : FS w a3 n3 c3 xs3) :
    Calls Try.prog 45 #[.pointer (some ⟨b, 0, none⟩)] w (RetV (.bool (pipeB n1 rs1 n2 rs2 n3 xs3 p)) w) := by
  have m1 : n1 ≤ 9223372036854775807 := Nat.le_trans h1.cap h1.big
  have m2 : n2 ≤ 9223372036854775807 := Nat.le_trans h2.cap h2.big
  have m3 : n3 ≤ 9223372036854775807 := Nat.le_trans h3.cap h3.big
  have HP := Lib.hid hp
  have H1 := Lib.hid h1
  have H2 := Lib.hid h2
  have H3 := Lib.hid h3
  have e0 := hp.e0
  have e1 := hp.e1
  have e2 := hp.e2
  clear hp h1 h2 h3
  by_cases q1 : (n1 : Int) < 1
  · have e : pipeB n1 rs1 n2 rs2 n3 xs3 p = false := by
      unfold pipeB inB; rw [decide_eq_false (show ¬ (1 : Int) ≤ n1 by omega)]; rfl
    rw [e]
    clear e
    go_enter Try.func45, Try.ntmps45
    go_wp2
    go_ret
    exact ⟨rfl, by (repeat (first | (with_reducible refine Below.drewN ?_) | (with_reducible refine Below.drew ?_) | ((with_reducible refine Below.alloc ?_ ?_ _); rotate_left; (first | omega | (simp <;> omega))) | ((with_reducible refine Below.setCell ?_ ?_ _); rotate_left; (first | omega | (simp <;> omega))) | (with_reducible exact Below.refl _ _) | (with_reducible assumption)))⟩
  by_cases q2 : (3 : Int) < n1
  · have e : pipeB n1 rs1 n2 rs2 n3 xs3 p = false := by
      unfold pipeB inB; rw [decide_eq_false (show ¬ (n1 : Int) ≤ 3 by omega)]; simp
    rw [e]
    clear e
    go_enter Try.func45, Try.ntmps45
    go_wp2
    go_ret
    exact ⟨rfl, by (repeat (first | (with_reducible refine Below.drewN ?_) | (with_reducible refine Below.drew ?_) | ((with_reducible refine Below.alloc ?_ ?_ _); rotate_left; (first | omega | (simp <;> omega))) | ((with_reducible refine Below.setCell ?_ ?_ _); rotate_left; (first | omega | (simp <;> omega))) | (with_reducible exact Below.refl _ _) | (with_reducible assumption)))⟩
  have i1 : inB n1 1 3 = true := by unfold inB; rw [decide_eq_true (show (1 : Int) ≤ n1 by omega), decide_eq_true (show (n1 : Int) ≤ 3 by omega)]; rfl
  by_cases q3 : (n2 : Int) = n1
  rotate_left
  · have e : pipeB n1 rs1 n2 rs2 n3 xs3 p = false := by
      unfold pipeB; rw [decide_eq_false q3]; simp
    rw [e]
    clear e i1
    go_enter Try.func45, Try.ntmps45
    go_wp2
    go_ret
    exact ⟨rfl, by (repeat (first | (with_reducible refine Below.drewN ?_) | (with_reducible refine Below.drew ?_) | ((with_reducible refine Below.alloc ?_ ?_ _); rotate_left; (first | omega | (simp <;> omega))) | ((with_reducible refine Below.setCell ?_ ?_ _); rotate_left; (first | omega | (simp <;> omega))) | (with_reducible exact Below.refl _ _) | (with_reducible assumption)))⟩
  by_cases q4 : (n3 : Int) = n1 - 1
  rotate_left
  · have e : pipeB n1 rs1 n2 rs2 n3 xs3 p = false := by
      unfold pipeB; rw [decide_eq_false q4]; simp
    rw [e]
    clear e i1
    have wr : IntKind.i64.wrap ((n1 : Int) - 1) = (n1 : Int) - 1 := IntWalk.i64_in _ (by omega)
    go_enter Try.func45, Try.ntmps45
    go_wp2
    go_ret
    exact ⟨rfl, by (repeat (first | (with_reducible refine Below.drewN ?_) | (with_reducible refine Below.drew ?_) | ((with_reducible refine Below.alloc ?_ ?_ _); rotate_left; (first | omega | (simp <;> omega))) | ((with_reducible refine Below.setCell ?_ ?_ _); rotate_left; (first | omega | (simp <;> omega))) | (with_reducible exact Below.refl _ _) | (with_reducible assumption)))⟩
  obtain rfl : n2 = n1 := by omega
  obtain rfl : n3 = n2 - 1 := by omega
  have wr : IntKind.i64.wrap ((n2 : Int) - 1) = ((n2 - 1 : Nat) : Int) := by rw [← q4]; exact IntWalk.i64_in _ (by omega)
  have eA : ∀ b : Bool, (inB n2 1 3 && (decide ((n2 : Int) = n2) && (decide (((n2 - 1 : Nat) : Int) = n2 - 1) && b))) = b := fun b => by rw [i1, decide_eq_true rfl, decide_eq_true q4]; rfl
  have eP : pipeB n2 rs1 n2 rs2 (n2 - 1) xs3 p = (rgsTo rs1 n2 && (rgsTo rs2 n2 && (lenTo rs1 rs2 n2 && (scTo xs3 (n2 - 1) && (okF p.k [p.f0, p.f1, p.f2] [p.f3, p.f4] && ((p.k == 1) && finTo [p.x1, p.x2, p.x3] 3)))))) := eA _
  rw [eP]
  clear eA eP i1 q3 q4
  have R1 : Hid (∀ W, Below w.heap.size w W → Calls Try.prog 118 #[.slice a1 n2 c1] W (RetB (rgsTo rs1 n2) W)) := fun W hW => c_l04RingsS _ _ _ _ _ (H1.out.below hW (Nat.le_refl _)) (by omega) (by omega)
  have R2 : Hid (∀ W, Below w.heap.size w W → Calls Try.prog 118 #[.slice a2 n2 c2] W (RetB (rgsTo rs2 n2) W)) := fun W hW => c_l04RingsS _ _ _ _ _ (H2.out.below hW (Nat.le_refl _)) (by omega) (by omega)
  cases r1 : rgsTo rs1 n2
  · rw [r1] at R1
    clear r1
    go_enter Try.func45, Try.ntmps45
    go_wp2_with fail
    refine (R1.out _ (by (repeat (first | (with_reducible refine Below.drewN ?_) | (with_reducible refine Below.drew ?_) | ((with_reducible refine Below.alloc ?_ ?_ _); rotate_left; (first | omega | (simp <;> omega))) | ((with_reducible refine Below.setCell ?_ ?_ _); rotate_left; (first | omega | (simp <;> omega))) | (with_reducible exact Below.refl _ _) | (with_reducible assumption))))).mono ?_
    rintro e w' ⟨rfl, d1, rfl⟩
    go_wp2
    go_ret
    exact ⟨rfl, by (repeat (first | (with_reducible refine Below.drewN ?_) | (with_reducible refine Below.drew ?_) | ((with_reducible refine Below.alloc ?_ ?_ _); rotate_left; (first | omega | (simp <;> omega))) | ((with_reducible refine Below.setCell ?_ ?_ _); rotate_left; (first | omega | (simp <;> omega))) | (with_reducible exact Below.refl _ _) | (with_reducible assumption)))⟩
  rw [r1] at R1
  clear r1
  cases r2 : rgsTo rs2 n2
  · rw [r2] at R2
    clear r2
    go_enter Try.func45, Try.ntmps45
    go_wp2_with fail
    refine (R1.out _ (by (repeat (first | (with_reducible refine Below.drewN ?_) | (with_reducible refine Below.drew ?_) | ((with_reducible refine Below.alloc ?_ ?_ _); rotate_left; (first | omega | (simp <;> omega))) | ((with_reducible refine Below.setCell ?_ ?_ _); rotate_left; (first | omega | (simp <;> omega))) | (with_reducible exact Below.refl _ _) | (with_reducible assumption))))).mono ?_
    rintro e w' ⟨rfl, d1, rfl⟩
    go_wp2_with fail
    refine (R2.out _ (by (repeat (first | (with_reducible refine Below.drewN ?_) | (with_reducible refine Below.drew ?_) | ((with_reducible refine Below.alloc ?_ ?_ _); rotate_left; (first | omega | (simp <;> omega))) | ((with_reducible refine Below.setCell ?_ ?_ _); rotate_left; (first | omega | (simp <;> omega))) | (with_reducible exact Below.refl _ _) | (with_reducible assumption))))).mono ?_
    rintro e w' ⟨rfl, d2, rfl⟩
    go_wp2
    go_ret
    exact ⟨rfl, by (repeat (first | (with_reducible refine Below.drewN ?_) | (with_reducible refine Below.drew ?_) | ((with_reducible refine Below.alloc ?_ ?_ _); rotate_left; (first | omega | (simp <;> omega))) | ((with_reducible refine Below.setCell ?_ ?_ _); rotate_left; (first | omega | (simp <;> omega))) | (with_reducible exact Below.refl _ _) | (with_reducible assumption)))⟩
  rw [r2] at R2
  clear r2
  obtain ⟨b1, o1, rfl, hbl1, hcell1⟩ := H1.out.at_ (by omega)
  obtain ⟨b2, o2, rfl, hbl2, hcell2⟩ := H2.out.at_ (by omega)
  have C1 := Lib.hid hcell1
  have C2 := Lib.hid hcell2
  have C3 := Lib.hid H3.out.at_
  clear hcell1 hcell2 H1 H2 H3
  simp only [Bool.true_and]
  go_enter Try.func45, Try.ntmps45
  go_wp2_with fail
  refine (R1.out _ (by (repeat (first | (with_reducible refine Below.drewN ?_) | (with_reducible refine Below.drew ?_) | ((with_reducible refine Below.alloc ?_ ?_ _); rotate_left; (first | omega | (simp <;> omega))) | ((with_reducible refine Below.setCell ?_ ?_ _); rotate_left; (first | omega | (simp <;> omega))) | (with_reducible exact Below.refl _ _) | (with_reducible assumption))))).mono ?_
  rintro e w' ⟨rfl, d1, rfl⟩
  go_wp2_with fail
  refine (R2.out _ (by (repeat (first | (with_reducible refine Below.drewN ?_) | (with_reducible refine Below.drew ?_) | ((with_reducible refine Below.alloc ?_ ?_ _); rotate_left; (first | omega | (simp <;> omega))) | ((with_reducible refine Below.setCell ?_ ?_ _); rotate_left; (first | omega | (simp <;> omega))) | (with_reducible exact Below.refl _ _) | (with_reducible assumption))))).mono ?_
  rintro e w' ⟨rfl, d2, rfl⟩
  clear R1 R2
  go_wp2
  go_loopw [4] (fun i wr => ∃ k : Nat, k ≤ n2 ∧ i = .int .i64 k ∧ Hid (lenTo rs1 rs2 k = true) ∧ ∃ q, wr = w.drewN q) (fun i _ => n2 - (intOf i).toNat)
  case atStart => exact ⟨0, by omega, rfl, rfl, same1 _ _⟩
  case round =>
    obtain ⟨k, hk, rfl, hall, q, rfl⟩ := hrel
    by_cases hlt : k < n2
    · have x1 := (C1.out k hlt).c0
      have x2 := (C2.out k hlt).c0
      by_cases hl : ((rat rs1 k).n : Int) = (rat rs2 k).n
      · have HU : Hid (lenTo rs1 rs2 (k + 1) = true) := by rw [lenTo, hall.out, decide_eq_true hl]; rfl
        rw [show (rat rs2 k).n = (rat rs1 k).n by omega] at x2
        clear hl
        go_wp2
        refine wp_region_sets' (by kernel_rfl) (by kernel_rfl) ?_
        apply Exists.intro
        iterate 19 (apply lx_want; kernel_rfl; (intro n; go_simp; exact ⟨OneV.mk _, _, (by first | rfl | exact congrArg _ (Nat.add_assoc _ _ _))⟩); rintro _ rfl)
        (refine lx_nil (Vl := []) ?_; intro n; simp only [Act.put, List.setIfInBounds_toArray, List.set_cons_succ, List.set_cons_zero])
        go_wp2
        go_roundw
        case rel => exact ⟨k + 1, by omega, by go_num, HU, same1 _ _⟩
        case measure => simp [intOf]; omega
      · have HU : Hid (lenTo rs1 rs2 n2 = false) := lenTo_false hl n2 hlt
        go_wp2
        refine wp_region_sets' (by kernel_rfl) (by kernel_rfl) ?_
        apply Exists.intro
        iterate 19 (apply lx_want; kernel_rfl; (intro n; go_simp; exact ⟨OneV.mk _, _, (by first | rfl | exact congrArg _ (Nat.add_assoc _ _ _))⟩); rintro _ rfl)
        (refine lx_nil (Vl := []) ?_; intro n; simp only [Act.put, List.setIfInBounds_toArray, List.set_cons_succ, List.set_cons_zero])
        go_wp2
        go_ret
        exact ⟨by rw [HU.out]; rfl, by (repeat (first | (with_reducible refine Below.drewN ?_) | (with_reducible refine Below.drew ?_) | ((with_reducible refine Below.alloc ?_ ?_ _); rotate_left; (first | omega | (simp <;> omega))) | ((with_reducible refine Below.setCell ?_ ?_ _); rotate_left; (first | omega | (simp <;> omega))) | (with_reducible exact Below.refl _ _) | (with_reducible assumption)))⟩
    · obtain rfl : n2 = k := by omega
      have HL := Lib.hid hall.out
      clear hall C1 C2
      go_wp2
      go_loopw [5] (fun i wr => ∃ j : Nat, j ≤ n2 - 1 ∧ i = .int .i64 j ∧ Hid (scTo xs3 j = true) ∧ ∃ q, wr = w.drewN q) (fun i _ => n2 - 1 - (intOf i).toNat)
      case atStart => exact ⟨0, by omega, rfl, rfl, same1 _ _⟩
      case round =>
        obtain ⟨j, hj, rfl, hal2, q2, hwr⟩ := hrel
        by_cases hlt2 : j < n2 - 1
        · subst hwr
          obtain ⟨b3, o3, rfl, hbl3, hcell3⟩ := C3.out (by omega)
          have d3 := hcell3 j hlt2
          clear hcell3
          clear C3
          cases g1 : (FloatKind.f32.format.order (nth xs3 j) 3212836864 == some .gt || FloatKind.f32.format.order (nth xs3 j) 3212836864 == some .eq)
          · have HU : Hid (scTo xs3 (n2 - 1) = false) := scTo_false (by unfold insB; rw [g1]; rfl) (n2 - 1) hlt2
            go_wp2
            go_ret
            exact ⟨by rw [HL.out, HU.out]; rfl, by (repeat (first | (with_reducible refine Below.drewN ?_) | (with_reducible refine Below.drew ?_) | ((with_reducible refine Below.alloc ?_ ?_ _); rotate_left; (first | omega | (simp <;> omega))) | ((with_reducible refine Below.setCell ?_ ?_ _); rotate_left; (first | omega | (simp <;> omega))) | (with_reducible exact Below.refl _ _) | (with_reducible assumption)))⟩
          cases g2 : (FloatKind.f32.format.order (nth xs3 j) 1065353216 == some .lt || FloatKind.f32.format.order (nth xs3 j) 1065353216 == some .eq)
          · have HU : Hid (scTo xs3 (n2 - 1) = false) := scTo_false (by unfold insB; rw [g1, g2]; rfl) (n2 - 1) hlt2
            go_wp2
            go_ret
            exact ⟨by rw [HL.out, HU.out]; rfl, by (repeat (first | (with_reducible refine Below.drewN ?_) | (with_reducible refine Below.drew ?_) | ((with_reducible refine Below.alloc ?_ ?_ _); rotate_left; (first | omega | (simp <;> omega))) | ((with_reducible refine Below.setCell ?_ ?_ _); rotate_left; (first | omega | (simp <;> omega))) | (with_reducible exact Below.refl _ _) | (with_reducible assumption)))⟩
          have HU : Hid (scTo xs3 (j + 1) = true) := by rw [scTo, hal2.out]; unfold insB; rw [g1, g2]; rfl
          go_wp2
          go_roundw
          case rel => exact ⟨j + 1, by omega, by go_num, HU, same1 _ _⟩
          case measure => simp [intOf]; omega
        · obtain rfl : n2 - 1 = j := by omega
          have HS := Lib.hid hal2.out
          clear hal2 C3
          have e3 : wr.cell? ⟨b, 3, none⟩ = some (.int .i64 p.k) := by rw [hwr]; exact HP.out.e3
          have e4 : wr.cell? ⟨b, 4, none⟩ = some (.float .f32 p.f0) := by rw [hwr]; exact HP.out.e4
          have e5 : wr.cell? ⟨b, 5, none⟩ = some (.float .f32 p.f1) := by rw [hwr]; exact HP.out.e5
          have e6 : wr.cell? ⟨b, 6, none⟩ = some (.float .f32 p.f2) := by rw [hwr]; exact HP.out.e6
          have e7 : wr.cell? ⟨b, 7, none⟩ = some (.float .f32 p.f3) := by rw [hwr]; exact HP.out.e7
          have e8 : wr.cell? ⟨b, 8, none⟩ = some (.float .f32 p.f4) := by rw [hwr]; exact HP.out.e8
          have e10 : wr.cell? ⟨b, 10, none⟩ = some (.float .f32 p.x1) := by rw [hwr]; exact HP.out.e10
          have e11 : wr.cell? ⟨b, 11, none⟩ = some (.float .f32 p.x2) := by rw [hwr]; exact HP.out.e11
          have e12 : wr.cell? ⟨b, 12, none⟩ = some (.float .f32 p.x3) := by rw [hwr]; exact HP.out.e12
          have hb' : b < wr.heap.size := by rw [hwr]; exact hb
          have bW : Below w.heap.size w wr := by rw [hwr]; exact Below.drewN (Below.refl _ _)
          have hz : Hid (w.heap.size ≤ wr.heap.size) := by show _ ≤ _; rw [hwr]; exact Nat.le_refl _
          clear hwr e0 e1 e2 HP
          have K1 : Hid (∀ W, Grow wr W → Calls Try.prog 119 #[.pointer (some ⟨b, 3, none⟩)] W (RetB (okF p.k [p.f0, p.f1, p.f2] [p.f3, p.f4]) W)) := fun W hW => by
            have hc := Grow.cells hW
            refine c_l02Ok b 3 p.k [p.f0, p.f1, p.f2] [p.f3, p.f4] W ?_ (three _ ?_ ?_ ?_) (two _ ?_ ?_) <;> rw [hc _ _ hb'] <;> assumption
          have K3 : Hid (∀ W g, W.heap[g]? = some (.cells #[.float .f32 p.x1, .float .f32 p.x2, .float .f32 p.x3] 24) → Calls Try.prog 120 #[.slice (some ⟨g, 0, none⟩) 3 3] W (RetB (finTo [p.x1, p.x2, p.x3] 3) W)) := fun W g hg => c_nums3 W g _ _ _ hg
          clear hb
          cases t1 : okF p.k [p.f0, p.f1, p.f2] [p.f3, p.f4]
          · rw [t1] at K1
            have T1 := Lib.hid t1
            clear t1
            go_wp2
            refine wp_region_grow [] [] (by kernel_rfl) (by kernel_rfl) (by kernel_rfl) ?_
            apply Exists.intro
            iterate 3 (apply lh_o; kernel_rfl; kernel_rfl; kernel_rfl; (intro W hW; have hWc := Grow.cells hW; go_simp; exact ⟨OneV.mk _, Grow.refl _⟩))
            (apply lh_o; kernel_rfl; kernel_rfl; kernel_rfl; (intro W hW; go_simp; first | exact gB (K1.out _ hW) | exact gV (K1.out _ hW)))
            (apply lh_o; kernel_rfl; kernel_rfl; kernel_rfl; (intro W hW; have hWc := Grow.cells hW; go_simp; exact ⟨OneV.mk _, Grow.refl _⟩))
            iterate 6 (apply lh_skip; kernel_rfl; kernel_rfl)
            iterate 2 (apply lh_o; kernel_rfl; kernel_rfl; kernel_rfl; (intro W hW; have hWc := Grow.cells hW; go_simp; exact ⟨OneV.mk _, Grow.refl _⟩))
            iterate 14 (apply lh_skip; kernel_rfl; kernel_rfl)
            iterate 2 (apply lh_o; kernel_rfl; kernel_rfl; kernel_rfl; (intro W hW; have hWc := Grow.cells hW; go_simp; exact ⟨OneV.mk _, Grow.refl _⟩))
            (refine lh_nil ?_; intro W hW; simp only [Act.put, List.setIfInBounds_toArray, List.set_cons_succ, List.set_cons_zero])
            go_wp2
            go_ret
            exact ⟨by rw [HL.out, HS.out, T1.out]; rfl, bW.trans (Below.mono hW hz.out)⟩
          rw [t1] at K1
          have T1 := Lib.hid t1
          clear t1
          cases t2 : p.k == 1
          · have T2 := Lib.hid t2
            go_wp2
            refine wp_region_grow [] [] (by kernel_rfl) (by kernel_rfl) (by kernel_rfl) ?_
            apply Exists.intro
            iterate 3 (apply lh_o; kernel_rfl; kernel_rfl; kernel_rfl; (intro W hW; have hWc := Grow.cells hW; go_simp; exact ⟨OneV.mk _, Grow.refl _⟩))
            (apply lh_o; kernel_rfl; kernel_rfl; kernel_rfl; (intro W hW; go_simp; first | exact gB (K1.out _ hW) | exact gV (K1.out _ hW)))
            iterate 9 (apply lh_o; kernel_rfl; kernel_rfl; kernel_rfl; (intro W hW; have hWc := Grow.cells hW; go_simp; exact ⟨OneV.mk _, Grow.refl _⟩))
            iterate 14 (apply lh_skip; kernel_rfl; kernel_rfl)
            iterate 2 (apply lh_o; kernel_rfl; kernel_rfl; kernel_rfl; (intro W hW; have hWc := Grow.cells hW; go_simp; exact ⟨OneV.mk _, Grow.refl _⟩))
            (refine lh_nil ?_; intro W hW; simp only [Act.put, List.setIfInBounds_toArray, List.set_cons_succ, List.set_cons_zero])
            go_wp2
            go_ret
            exact ⟨by rw [HL.out, HS.out, T1.out, T2.out]; rfl, bW.trans (Below.mono hW hz.out)⟩
          have T2 := Lib.hid t2
          go_wp2
          refine wp_region_grow [26] [25] (by kernel_rfl) (by kernel_rfl) (by kernel_rfl) ?_
          apply Exists.intro
          iterate 3 (apply lh_o; kernel_rfl; kernel_rfl; kernel_rfl; (intro W hW; have hWc := Grow.cells hW; go_simp; exact ⟨OneV.mk _, Grow.refl _⟩))
          (apply lh_o; kernel_rfl; kernel_rfl; kernel_rfl; (intro W hW; go_simp; first | exact gB (K1.out _ hW) | exact gV (K1.out _ hW)))
          iterate 21 (apply lh_o; kernel_rfl; kernel_rfl; kernel_rfl; (intro W hW; have hWc := Grow.cells hW; go_simp; exact ⟨OneV.mk _, Grow.refl _⟩))
          (apply lh_new; kernel_rfl; kernel_rfl; kernel_rfl; (intro W hW; have hWc := Grow.cells hW; go_simp; exact ⟨NewAt.mk _ _ _ _, Grow.alloc _ _⟩); intro g hfr)
          (apply lh_h; kernel_rfl; kernel_rfl; kernel_rfl; (intro W hW; go_simp; first | exact gB (K3.out _ _ hW.2) | exact gV (K3.out _ _ hW.2)))
          iterate 2 (apply lh_o; kernel_rfl; kernel_rfl; kernel_rfl; (intro W hW; have hWc := Grow.cells hW; go_simp; exact ⟨OneV.mk _, Grow.refl _⟩))
          (refine lh_nil ?_; intro W hW; simp only [Act.put, List.setIfInBounds_toArray, List.set_cons_succ, List.set_cons_zero])
          go_wp2
          go_ret
          exact ⟨by rw [HL.out, HS.out, T1.out, T2.out]; rfl, bW.trans (Below.mono hW.1 hz.out)⟩
end Go.Proofs.Ytfhegjjgfaeinaa
