
/-
Contracts of the tests whether rings are quiet.
The reference's test of pipes.
The program's test of pipes.
The law of the test of pipes, joined.
-/
import Derived.Test.YtbdanadmabemdaaDoorRh
import Derived.Test.YtbdanadmabemdaaDoorRi
import Derived.Test.YtbdanadmabemdaaDoorDg
import Derived.Test.YtbdanadmabemdaaDoorLi
import Derived.Deep.LoopGhost
import Derived.Test.YtbdanadmabemdaaDoorRa
import Derived.Test.YtbdanadmabemdaaDoorMc
import Derived.Test.YtbdanadmabemdaaDoorPl
namespace Go.Proofs.YtbdanadmabemdaaDoor
open Go Go.RowKit Fl
/-- the first k are 0 -/
def zeroTo (xs : List Nat) : Nat → Bool
  | 0 => true
  | k + 1 => zeroTo xs k && zeroB (nth xs k)
theorem zeroTo_false {xs : List Nat} {k : Nat} (h : zeroB (nth xs k) = false) : ∀ n, k < n → zeroTo xs n = false
  | n + 1, hk => by
    by_cases e : k = n
    · subst e; rw [zeroTo, h, Bool.and_false]
    · rw [zeroTo, zeroTo_false h n (by omega), Bool.false_and]
theorem zeroTo_all {xs : List Nat} : ∀ n, (∀ k, k < n → zeroB (nth xs k) = true) → zeroTo xs n = true
  | 0, _ => rfl
  | n + 1, h => by rw [zeroTo, zeroTo_all n fun k hk => h k (by omega), h n (by omega)]; rfl
/-- where the sample lies that came k samples ago -/
def bidx (n : Nat) (i : Int) (k : Nat) : Nat := ((i - k + n) % n).toNat
theorem bidx_lt {n : Nat} (h : 0 < n) (i : Int) (k : Nat) : bidx n i k < n := by
  unfold bidx
  have := Int.emod_lt_of_pos (i - k + n) (show (0 : Int) < n by omega)
  have := Int.emod_nonneg (i - k + n) (show (n : Int) ≠ 0 by omega)
  omega
theorem bidx_all {n : Nat} {i : Int} (h0 : 0 ≤ i) (h1 : i < n) (j : Nat) (hj : j < n) : ∃ k, 1 ≤ k ∧ k ≤ n ∧ bidx n i k = j := by
  obtain ⟨m, rfl⟩ := Int.eq_ofNat_of_zero_le h0
  by_cases h : j < m
  · refine ⟨m - j, by omega, by omega, ?_⟩
    unfold bidx
    rw [show ((m : Int) - ((m - j : Nat) : Int) + n) = ((j + n : Nat) : Int) by omega, ← Int.natCast_emod, Nat.add_mod_right, Nat.mod_eq_of_lt hj]
    rfl
  · refine ⟨m + n - j, by omega, by omega, ?_⟩
    unfold bidx
    rw [show ((m : Int) - ((m + n - j : Nat) : Int) + n) = ((j : Nat) : Int) by omega, ← Int.natCast_emod, Nat.mod_eq_of_lt hj]
    rfl
/-- how many samples are quiet: m more are looked at behind the first k -/
def quietFrom (f : Nat → Bool) : Nat → Nat → Nat
  | 0, k => k
  | m + 1, k => if f (k + 1) then quietFrom f m (k + 1) else k
theorem quietFrom_true {f : Nat → Bool} : ∀ m k, (∀ j, k < j → j ≤ k + m → f j = true) → quietFrom f m k = k + m
  | 0, _, _ => rfl
  | m + 1, k, h => by
    rw [quietFrom, if_pos (h (k + 1) (by omega) (by omega)), quietFrom_true m (k + 1) fun j h1 h2 => h j (by omega) (by omega)]; omega
theorem quietFrom_lt {f : Nat → Bool} : ∀ m k, (∃ j, k < j ∧ j ≤ k + m ∧ f j = false) → quietFrom f m k < k + m
  | 0, _, ⟨j, h1, h2, _⟩ => by omega
  | m + 1, k, ⟨j, h1, h2, h3⟩ => by
    rw [quietFrom]
    by_cases hf : f (k + 1) = true
    · rw [if_pos hf]
      have : j ≠ k + 1 := fun h => by rw [h, hf] at h3; cases h3
      have := quietFrom_lt m (k + 1) ⟨j, by omega, by omega, h3⟩
      omega
    · rw [if_neg hf]; omega
theorem zeroTo_nth {xs : List Nat} : ∀ {n : Nat}, zeroTo xs n = true → ∀ k, k < n → zeroB (nth xs k) = true
  | n + 1, h, k, hk => by
    rw [zeroTo, Bool.and_eq_true] at h
    by_cases e : k = n
    · subst e; exact h.2
    · exact zeroTo_nth h.1 k (by omega)
theorem zeroTo_some {xs : List Nat} : ∀ {n : Nat}, zeroTo xs n = false → ∃ k, k < n ∧ zeroB (nth xs k) = false
  | n + 1, h => by
    rw [zeroTo, Bool.and_eq_false_iff] at h
    rcases h with h | h
    · obtain ⟨k, hk, h⟩ := zeroTo_some h; exact ⟨k, by omega, h⟩
    · exact ⟨n, by omega, h⟩
def quietN (xs : List Nat) (n : Nat) (i : Int) : Nat := quietFrom (fun k => zeroB (nth xs (bidx n i k))) n 0
theorem quiet_all {xs : List Nat} {n : Nat} {i : Int} (h0 : 0 ≤ i) (h1 : i < n) : (((quietN xs n i : Nat) : Int) == (n : Int)) = zeroTo xs n := by
  unfold quietN
  cases hz : zeroTo xs n
  · obtain ⟨k, hk, hf⟩ := zeroTo_some hz
    obtain ⟨q, q1, q2, q3⟩ := bidx_all h0 h1 k hk
    have := quietFrom_lt (f := fun k => zeroB (nth xs (bidx n i k))) n 0 ⟨q, by omega, by omega, by simp only [q3]; exact hf⟩
    simp; omega
  · rw [quietFrom_true n 0 fun j h1 h2 => zeroTo_nth hz _ (bidx_lt (by omega) _ _)]
    simp
theorem c_lengthV (a : Option Addr) (n c : Nat) (w : World) : Calls Tryd.prog 62 #[.slice a n c] w (RetV (.int .i64 n) w) := (c_length a n c w).mono fun _ _ ⟨he, hw⟩ => ⟨he, hw ▸ Below.refl _ _⟩
/-- the samples of the first k rings are 0 -/
def rgsZero (rs : List Rg) : Nat → Bool
  | 0 => true
  | k + 1 => rgsZero rs k && zeroTo (rat rs k).xs (rat rs k).n
theorem rgsZero_false {rs : List Rg} {k : Nat} (h : zeroTo (rat rs k).xs (rat rs k).n = false) : ∀ n, k < n → rgsZero rs n = false
  | n + 1, hk => by
    by_cases e : k = n
    · subst e; rw [rgsZero, h, Bool.and_false]
    · rw [rgsZero, rgsZero_false h n (by omega), Bool.false_and]
end Go.Proofs.YtbdanadmabemdaaDoor
namespace Go.Proofs.YtbdanadmabemdaaDoor
open Go Go.RowKit Fl
theorem RS.drawN {w : World} {a : Option Addr} {n c k : Nat} {rs : List Rg} (h : RS w a n c rs) : RS (w.drewN k) a n c rs := h.draw
/-- the first k numbers are between -1 and 1 -/
def scTo (xs : List Nat) : Nat → Bool
  | 0 => true
  | k + 1 => scTo xs k && insB (nth xs k) 3212836864 1065353216
theorem scTo_false {xs : List Nat} {k : Nat} (h : insB (nth xs k) 3212836864 1065353216 = false) : ∀ n, k < n → scTo xs n = false
  | 0, hn => absurd hn (by omega)
  | n + 1, hn => by
    by_cases e : k = n
    · subst e; rw [scTo, h, Bool.and_false]
    · rw [scTo, scTo_false h n (by omega), Bool.false_and]
/-- the first k rings of both lists have as many samples -/
def lenTo (rs ss : List Rg) : Nat → Bool
  | 0 => true
  | k + 1 => lenTo rs ss k && decide (((rat rs k).n : Int) = (rat ss k).n)
theorem lenTo_false {rs ss : List Rg} {k : Nat} (h : ¬ ((rat rs k).n : Int) = (rat ss k).n) : ∀ n, k < n → lenTo rs ss n = false
  | 0, hn => absurd hn (by omega)
  | n + 1, hn => by
    by_cases e : k = n
    · subst e; rw [lenTo, decide_eq_false h, Bool.and_false]
    · rw [lenTo, lenTo_false h n (by omega), Bool.false_and]
/-- the numbers of a pipe -/
structure Pn where
  k : Int
  f0 : Nat
  f1 : Nat
  f2 : Nat
  f3 : Nat
  f4 : Nat
  x1 : Nat
  x2 : Nat
  x3 : Nat
/-- is a pipe valid -/
def pipeB (n1 : Nat) (rs1 : List Rg) (n2 : Nat) (rs2 : List Rg) (n3 : Nat) (xs3 : List Nat) (p : Pn) : Bool :=
  inB n1 1 3 && (decide ((n2 : Int) = n1) && (decide ((n3 : Int) = n1 - 1) && (rgsTo rs1 n1 && (rgsTo rs2 n1 && (lenTo rs1 rs2 n1 && (scTo xs3 n3 && (okF p.k [p.f0, p.f1, p.f2] [p.f3, p.f4] && ((p.k == 1) && finTo [p.x1, p.x2, p.x3] 3))))))))
/-- a pipe in a box -/
structure PBox (w : World) (b : Nat) (a1 : Option Addr) (n1 c1 : Nat) (a2 : Option Addr) (n2 c2 : Nat) (a3 : Option Addr) (n3 c3 : Nat) (p : Pn) : Prop where
  e0 : w.cell? ⟨b, 0, none⟩ = some (.slice a1 n1 c1)
  e1 : w.cell? ⟨b, 1, none⟩ = some (.slice a2 n2 c2)
  e2 : w.cell? ⟨b, 2, none⟩ = some (.slice a3 n3 c3)
  e3 : w.cell? ⟨b, 3, none⟩ = some (.int .i64 p.k)
  e4 : w.cell? ⟨b, 4, none⟩ = some (.float .f32 p.f0)
  e5 : w.cell? ⟨b, 5, none⟩ = some (.float .f32 p.f1)
  e6 : w.cell? ⟨b, 6, none⟩ = some (.float .f32 p.f2)
  e7 : w.cell? ⟨b, 7, none⟩ = some (.float .f32 p.f3)
  e8 : w.cell? ⟨b, 8, none⟩ = some (.float .f32 p.f4)
  e10 : w.cell? ⟨b, 10, none⟩ = some (.float .f32 p.x1)
  e11 : w.cell? ⟨b, 11, none⟩ = some (.float .f32 p.x2)
  e12 : w.cell? ⟨b, 12, none⟩ = some (.float .f32 p.x3)
theorem PBox.below {w w' : World} {b : Nat} {a1 : Option Addr} {n1 c1 : Nat} {a2 : Option Addr} {n2 c2 : Nat} {a3 : Option Addr} {n3 c3 : Nat} {p : Pn} (h : PBox w b a1 n1 c1 a2 n2 c2 a3 n3 c3 p) (hb : Below w.heap.size w w') (hlt : b < w.heap.size) : PBox w' b a1 n1 c1 a2 n2 c2 a3 n3 c3 p := by
  have hc := (bcell hb).1
  exact ⟨(hc _ _ hlt).trans h.e0, (hc _ _ hlt).trans h.e1, (hc _ _ hlt).trans h.e2, (hc _ _ hlt).trans h.e3, (hc _ _ hlt).trans h.e4, (hc _ _ hlt).trans h.e5, (hc _ _ hlt).trans h.e6, (hc _ _ hlt).trans h.e7, (hc _ _ hlt).trans h.e8, (hc _ _ hlt).trans h.e10, (hc _ _ hlt).trans h.e11, (hc _ _ hlt).trans h.e12⟩
theorem c_nums3 (W : World) (g : Nat) (x1 x2 x3 : Nat) {T : TypeId} (hg : W.heap[g]? = some (.cells #[.float .f32 x1, .float .f32 x2, .float .f32 x3] T)) :
    Calls Tryd.prog 49 #[.slice (some ⟨g, 0, none⟩) 3 3] W (RetB (finTo [x1, x2, x3] 3) W) :=
  c_l04All _ 3 3 [x1, x2, x3] W ⟨rfl, Nat.le_refl _, by omega, fun _ => ⟨g, 0, rfl, (Array.getElem?_eq_some_iff.1 hg).1, three _ (cell_block hg _) (cell_block hg _) (cell_block hg _)⟩⟩
theorem c_l04RingsS (a : Option Addr) (n c : Nat) (rs : List Rg) (w : World) (h : RS w a n c rs) (h0 : 0 < n) (hs : n ≤ 1048576) :
    Calls Tryd.prog 47 #[.slice a n c] w (RetB (rgsTo rs n) w) := by
  obtain ⟨b, o, rfl, hbl, hc⟩ := h.at_ h0
  have hl := h.len
  subst hl
  exact c_l04Rings b o rs c w hs hc
set_option maxRecDepth 100000 in
set_option maxHeartbeats 4000000 in
theorem c_l04Ok (b : Nat) (a1 : Option Addr) (n1 c1 : Nat) (rs1 : List Rg) (a2 : Option Addr) (n2 c2 : Nat) (rs2 : List Rg) (a3 : Option Addr) (n3 c3 : Nat) (xs3 : List Nat) (p : Pn) (w : World) (hp : PBox w b a1 n1 c1 a2 n2 c2 a3 n3 c3 p) (hb : b < w.heap.size) (h1 : RS w a1 n1 c1 rs1) (h2 : RS w a2 n2 c2 rs2) (h3 : FS w a3 n3 c3 xs3) :
    Calls Tryd.prog 38 #[.pointer (some ⟨b, 0, none⟩)] w (RetV (.bool (pipeB n1 rs1 n2 rs2 n3 xs3 p)) w) := by
  have m1 : n1 ≤ 9223372036854775807 := Nat.le_trans h1.cap h1.big
  have m2 : n2 ≤ 9223372036854775807 := Nat.le_trans h2.cap h2.big
  have m3 : n3 ≤ 9223372036854775807 := Nat.le_trans h3.cap h3.big
  have HP := Lib.hid hp
  have H1 := Lib.hid h1
  have H2 := Lib.hid h2
  have H3 := Lib.hid h3
  have e0 := hp.e0
  have e1 := hp.e1
  have e2 := hp.e2
  clear hp h1 h2 h3
  by_cases q1 : (n1 : Int) < 1
  · have e : pipeB n1 rs1 n2 rs2 n3 xs3 p = false := by
      unfold pipeB inB; rw [decide_eq_false (show ¬ (1 : Int) ≤ n1 by omega)]; rfl
    rw [e]
    clear e
    go_enter Tryd.func38, Tryd.ntmps38
    go_wp2
    go_ret
    exact ⟨rfl, by (repeat (first | (with_reducible refine Below.drewN ?_) | (with_reducible refine Below.drew ?_) | ((with_reducible refine Below.alloc ?_ ?_ _); rotate_left; (first | omega | (simp <;> omega))) | ((with_reducible refine Below.setCell ?_ ?_ _); rotate_left; (first | omega | (simp <;> omega))) | (with_reducible exact Below.refl _ _) | (with_reducible assumption)))⟩
  by_cases q2 : (3 : Int) < n1
  · have e : pipeB n1 rs1 n2 rs2 n3 xs3 p = false := by
      unfold pipeB inB; rw [decide_eq_false (show ¬ (n1 : Int) ≤ 3 by omega)]; simp
    rw [e]
    clear e
    go_enter Tryd.func38, Tryd.ntmps38
    go_wp2
    go_ret
    exact ⟨rfl, by (repeat (first | (with_reducible refine Below.drewN ?_) | (with_reducible refine Below.drew ?_) | ((with_reducible refine Below.alloc ?_ ?_ _); rotate_left; (first | omega | (simp <;> omega))) | ((with_reducible refine Below.setCell ?_ ?_ _); rotate_left; (first | omega | (simp <;> omega))) | (with_reducible exact Below.refl _ _) | (with_reducible assumption)))⟩
  have i1 : inB n1 1 3 = true := by unfold inB; rw [decide_eq_true (show (1 : Int) ≤ n1 by omega), decide_eq_true (show (n1 : Int) ≤ 3 by omega)]; rfl
  by_cases q3 : (n2 : Int) = n1
  rotate_left
  · have e : pipeB n1 rs1 n2 rs2 n3 xs3 p = false := by
      unfold pipeB; rw [decide_eq_false q3]; simp
    rw [e]
    clear e i1
    go_enter Tryd.func38, Tryd.ntmps38
    go_wp2
    go_ret
    exact ⟨rfl, by (repeat (first | (with_reducible refine Below.drewN ?_) | (with_reducible refine Below.drew ?_) | ((with_reducible refine Below.alloc ?_ ?_ _); rotate_left; (first | omega | (simp <;> omega))) | ((with_reducible refine Below.setCell ?_ ?_ _); rotate_left; (first | omega | (simp <;> omega))) | (with_reducible exact Below.refl _ _) | (with_reducible assumption)))⟩
  by_cases q4 : (n3 : Int) = n1 - 1
  rotate_left
  · have e : pipeB n1 rs1 n2 rs2 n3 xs3 p = false := by
      unfold pipeB; rw [decide_eq_false q4]; simp
    rw [e]
    clear e i1
    have wr : IntKind.i64.wrap ((n1 : Int) - 1) = (n1 : Int) - 1 := IntWalk.i64_in _ (by omega)
    go_enter Tryd.func38, Tryd.ntmps38
    go_wp2
    go_ret
    exact ⟨rfl, by (repeat (first | (with_reducible refine Below.drewN ?_) | (with_reducible refine Below.drew ?_) | ((with_reducible refine Below.alloc ?_ ?_ _); rotate_left; (first | omega | (simp <;> omega))) | ((with_reducible refine Below.setCell ?_ ?_ _); rotate_left; (first | omega | (simp <;> omega))) | (with_reducible exact Below.refl _ _) | (with_reducible assumption)))⟩
  obtain rfl : n2 = n1 := by omega
  obtain rfl : n3 = n2 - 1 := by omega
  have wr : IntKind.i64.wrap ((n2 : Int) - 1) = ((n2 - 1 : Nat) : Int) := by rw [← q4]; exact IntWalk.i64_in _ (by omega)
  have eA : ∀ b : Bool, (inB n2 1 3 && (decide ((n2 : Int) = n2) && (decide (((n2 - 1 : Nat) : Int) = n2 - 1) && b))) = b := fun b => by rw [i1, decide_eq_true rfl, decide_eq_true q4]; rfl
  have eP : pipeB n2 rs1 n2 rs2 (n2 - 1) xs3 p = (rgsTo rs1 n2 && (rgsTo rs2 n2 && (lenTo rs1 rs2 n2 && (scTo xs3 (n2 - 1) && (okF p.k [p.f0, p.f1, p.f2] [p.f3, p.f4] && ((p.k == 1) && finTo [p.x1, p.x2, p.x3] 3)))))) := eA _
  rw [eP]
  clear eA eP i1 q3 q4
  have R1 : Hid (∀ W, Below w.heap.size w W → Calls Tryd.prog 47 #[.slice a1 n2 c1] W (RetB (rgsTo rs1 n2) W)) := fun W hW => c_l04RingsS _ _ _ _ _ (H1.out.below hW (Nat.le_refl _)) (by omega) (by omega)
  have R2 : Hid (∀ W, Below w.heap.size w W → Calls Tryd.prog 47 #[.slice a2 n2 c2] W (RetB (rgsTo rs2 n2) W)) := fun W hW => c_l04RingsS _ _ _ _ _ (H2.out.below hW (Nat.le_refl _)) (by omega) (by omega)
  cases r1 : rgsTo rs1 n2
  · rw [r1] at R1
    clear r1
    go_enter Tryd.func38, Tryd.ntmps38
    go_wp2_with fail
    refine (R1.out _ (by (repeat (first | (with_reducible refine Below.drewN ?_) | (with_reducible refine Below.drew ?_) | ((with_reducible refine Below.alloc ?_ ?_ _); rotate_left; (first | omega | (simp <;> omega))) | ((with_reducible refine Below.setCell ?_ ?_ _); rotate_left; (first | omega | (simp <;> omega))) | (with_reducible exact Below.refl _ _) | (with_reducible assumption))))).mono ?_
    rintro e w' ⟨rfl, d1, rfl⟩
    go_wp2
    go_ret
    exact ⟨rfl, by (repeat (first | (with_reducible refine Below.drewN ?_) | (with_reducible refine Below.drew ?_) | ((with_reducible refine Below.alloc ?_ ?_ _); rotate_left; (first | omega | (simp <;> omega))) | ((with_reducible refine Below.setCell ?_ ?_ _); rotate_left; (first | omega | (simp <;> omega))) | (with_reducible exact Below.refl _ _) | (with_reducible assumption)))⟩
  rw [r1] at R1
  clear r1
  cases r2 : rgsTo rs2 n2
  · rw [r2] at R2
    clear r2
    go_enter Tryd.func38, Tryd.ntmps38
    go_wp2_with fail
    refine (R1.out _ (by (repeat (first | (with_reducible refine Below.drewN ?_) | (with_reducible refine Below.drew ?_) | ((with_reducible refine Below.alloc ?_ ?_ _); rotate_left; (first | omega | (simp <;> omega))) | ((with_reducible refine Below.setCell ?_ ?_ _); rotate_left; (first | omega | (simp <;> omega))) | (with_reducible exact Below.refl _ _) | (with_reducible assumption))))).mono ?_
    rintro e w' ⟨rfl, d1, rfl⟩
    go_wp2_with fail
    refine (R2.out _ (by (repeat (first | (with_reducible refine Below.drewN ?_) | (with_reducible refine Below.drew ?_) | ((with_reducible refine Below.alloc ?_ ?_ _); rotate_left; (first | omega | (simp <;> omega))) | ((with_reducible refine Below.setCell ?_ ?_ _); rotate_left; (first | omega | (simp <;> omega))) | (with_reducible exact Below.refl _ _) | (with_reducible assumption))))).mono ?_
    rintro e w' ⟨rfl, d2, rfl⟩
    go_wp2
    go_ret
    exact ⟨rfl, by (repeat (first | (with_reducible refine Below.drewN ?_) | (with_reducible refine Below.drew ?_) | ((with_reducible refine Below.alloc ?_ ?_ _); rotate_left; (first | omega | (simp <;> omega))) | ((with_reducible refine Below.setCell ?_ ?_ _); rotate_left; (first | omega | (simp <;> omega))) | (with_reducible exact Below.refl _ _) | (with_reducible assumption)))⟩
  rw [r2] at R2
  clear r2
  obtain ⟨b1, o1, rfl, hbl1, hcell1⟩ := H1.out.at_ (by omega)
  obtain ⟨b2, o2, rfl, hbl2, hcell2⟩ := H2.out.at_ (by omega)
  have C1 := Lib.hid hcell1
  have C2 := Lib.hid hcell2
  have C3 := Lib.hid H3.out.at_
  clear hcell1 hcell2 H1 H2 H3
  simp only [Bool.true_and]
  go_enter Tryd.func38, Tryd.ntmps38
  go_wp2_with fail
  refine (R1.out _ (by (repeat (first | (with_reducible refine Below.drewN ?_) | (with_reducible refine Below.drew ?_) | ((with_reducible refine Below.alloc ?_ ?_ _); rotate_left; (first | omega | (simp <;> omega))) | ((with_reducible refine Below.setCell ?_ ?_ _); rotate_left; (first | omega | (simp <;> omega))) | (with_reducible exact Below.refl _ _) | (with_reducible assumption))))).mono ?_
  rintro e w' ⟨rfl, d1, rfl⟩
  go_wp2_with fail
  refine (R2.out _ (by (repeat (first | (with_reducible refine Below.drewN ?_) | (with_reducible refine Below.drew ?_) | ((with_reducible refine Below.alloc ?_ ?_ _); rotate_left; (first | omega | (simp <;> omega))) | ((with_reducible refine Below.setCell ?_ ?_ _); rotate_left; (first | omega | (simp <;> omega))) | (with_reducible exact Below.refl _ _) | (with_reducible assumption))))).mono ?_
  rintro e w' ⟨rfl, d2, rfl⟩
  clear R1 R2
  go_wp2
  go_loopw [4] (fun i wr => ∃ k : Nat, k ≤ n2 ∧ i = .int .i64 k ∧ Hid (lenTo rs1 rs2 k = true) ∧ ∃ q, wr = w.drewN q) (fun i _ => n2 - (intOf i).toNat)
  case atStart => exact ⟨0, by omega, rfl, rfl, same1 _ _⟩
  case round =>
    obtain ⟨k, hk, rfl, hall, q, rfl⟩ := hrel
    by_cases hlt : k < n2
    · have x1 := (C1.out k hlt).c0
      have x2 := (C2.out k hlt).c0
      by_cases hl : ((rat rs1 k).n : Int) = (rat rs2 k).n
      · have HU : Hid (lenTo rs1 rs2 (k + 1) = true) := by rw [lenTo, hall.out, decide_eq_true hl]; rfl
        rw [show (rat rs2 k).n = (rat rs1 k).n by omega] at x2
        clear hl
        go_wp2
        refine wp_region_sets' (by kernel_rfl) (by kernel_rfl) ?_
        apply Exists.intro
        iterate 19 (apply lx_want; kernel_rfl; (intro n; go_simp; exact ⟨OneV.mk _, _, (by first | rfl | exact congrArg _ (Nat.add_assoc _ _ _))⟩); rintro _ rfl)
        (refine lx_nil (Vl := []) ?_; intro n; simp only [Act.put, List.setIfInBounds_toArray, List.set_cons_succ, List.set_cons_zero])
        go_wp2
        go_roundw
        case rel => exact ⟨k + 1, by omega, by go_num, HU, same1 _ _⟩
        case measure => simp [intOf]; omega
      · have HU : Hid (lenTo rs1 rs2 n2 = false) := lenTo_false hl n2 hlt
        go_wp2
        refine wp_region_sets' (by kernel_rfl) (by kernel_rfl) ?_
        apply Exists.intro
        iterate 19 (apply lx_want; kernel_rfl; (intro n; go_simp; exact ⟨OneV.mk _, _, (by first | rfl | exact congrArg _ (Nat.add_assoc _ _ _))⟩); rintro _ rfl)
        (refine lx_nil (Vl := []) ?_; intro n; simp only [Act.put, List.setIfInBounds_toArray, List.set_cons_succ, List.set_cons_zero])
        go_wp2
        go_ret
        exact ⟨by rw [HU.out]; rfl, by (repeat (first | (with_reducible refine Below.drewN ?_) | (with_reducible refine Below.drew ?_) | ((with_reducible refine Below.alloc ?_ ?_ _); rotate_left; (first | omega | (simp <;> omega))) | ((with_reducible refine Below.setCell ?_ ?_ _); rotate_left; (first | omega | (simp <;> omega))) | (with_reducible exact Below.refl _ _) | (with_reducible assumption)))⟩
    · obtain rfl : n2 = k := by omega
      have HL := Lib.hid hall.out
      clear hall C1 C2
      go_wp2
      go_loopw [5] (fun i wr => ∃ j : Nat, j ≤ n2 - 1 ∧ i = .int .i64 j ∧ Hid (scTo xs3 j = true) ∧ ∃ q, wr = w.drewN q) (fun i _ => n2 - 1 - (intOf i).toNat)
      case atStart => exact ⟨0, by omega, rfl, rfl, same1 _ _⟩
      case round =>
        obtain ⟨j, hj, rfl, hal2, q2, hwr⟩ := hrel
        by_cases hlt2 : j < n2 - 1
        · subst hwr
          obtain ⟨b3, o3, rfl, hbl3, hcell3⟩ := C3.out (by omega)
          have d3 := hcell3 j hlt2
          clear hcell3
          clear C3
          cases g1 : (FloatKind.f32.format.order (nth xs3 j) 3212836864 == some .gt || FloatKind.f32.format.order (nth xs3 j) 3212836864 == some .eq)
          · have HU : Hid (scTo xs3 (n2 - 1) = false) := scTo_false (by unfold insB; rw [g1]; rfl) (n2 - 1) hlt2
            go_wp2
            go_ret
            exact ⟨by rw [HL.out, HU.out]; rfl, by (repeat (first | (with_reducible refine Below.drewN ?_) | (with_reducible refine Below.drew ?_) | ((with_reducible refine Below.alloc ?_ ?_ _); rotate_left; (first | omega | (simp <;> omega))) | ((with_reducible refine Below.setCell ?_ ?_ _); rotate_left; (first | omega | (simp <;> omega))) | (with_reducible exact Below.refl _ _) | (with_reducible assumption)))⟩
          cases g2 : (FloatKind.f32.format.order (nth xs3 j) 1065353216 == some .lt || FloatKind.f32.format.order (nth xs3 j) 1065353216 == some .eq)
          · have HU : Hid (scTo xs3 (n2 - 1) = false) := scTo_false (by unfold insB; rw [g1, g2]; rfl) (n2 - 1) hlt2
            go_wp2
            go_ret
            exact ⟨by rw [HL.out, HU.out]; rfl, by (repeat (first | (with_reducible refine Below.drewN ?_) | (with_reducible refine Below.drew ?_) | ((with_reducible refine Below.alloc ?_ ?_ _); rotate_left; (first | omega | (simp <;> omega))) | ((with_reducible refine Below.setCell ?_ ?_ _); rotate_left; (first | omega | (simp <;> omega))) | (with_reducible exact Below.refl _ _) | (with_reducible assumption)))⟩
          have HU : Hid (scTo xs3 (j + 1) = true) := by rw [scTo, hal2.out]; unfold insB; rw [g1, g2]; rfl
          go_wp2
          go_roundw
          case rel => exact ⟨j + 1, by omega, by go_num, HU, same1 _ _⟩
          case measure => simp [intOf]; omega
        · obtain rfl : n2 - 1 = j := by omega
          have HS := Lib.hid hal2.out
          clear hal2 C3
          have e3 : wr.cell? ⟨b, 3, none⟩ = some (.int .i64 p.k) := by rw [hwr]; exact HP.out.e3
          have e4 : wr.cell? ⟨b, 4, none⟩ = some (.float .f32 p.f0) := by rw [hwr]; exact HP.out.e4
          have e5 : wr.cell? ⟨b, 5, none⟩ = some (.float .f32 p.f1) := by rw [hwr]; exact HP.out.e5
          have e6 : wr.cell? ⟨b, 6, none⟩ = some (.float .f32 p.f2) := by rw [hwr]; exact HP.out.e6
          have e7 : wr.cell? ⟨b, 7, none⟩ = some (.float .f32 p.f3) := by rw [hwr]; exact HP.out.e7
          have e8 : wr.cell? ⟨b, 8, none⟩ = some (.float .f32 p.f4) := by rw [hwr]; exact HP.out.e8
          have e10 : wr.cell? ⟨b, 10, none⟩ = some (.float .f32 p.x1) := by rw [hwr]; exact HP.out.e10
          have e11 : wr.cell? ⟨b, 11, none⟩ = some (.float .f32 p.x2) := by rw [hwr]; exact HP.out.e11
          have e12 : wr.cell? ⟨b, 12, none⟩ = some (.float .f32 p.x3) := by rw [hwr]; exact HP.out.e12
          have hb' : b < wr.heap.size := by rw [hwr]; exact hb
          have bW : Below w.heap.size w wr := by rw [hwr]; exact Below.drewN (Below.refl _ _)
          have hz : Hid (w.heap.size ≤ wr.heap.size) := by show _ ≤ _; rw [hwr]; exact Nat.le_refl _
          clear hwr e0 e1 e2 HP
          have K1 : Hid (∀ W, Grow wr W → Calls Tryd.prog 48 #[.pointer (some ⟨b, 3, none⟩)] W (RetB (okF p.k [p.f0, p.f1, p.f2] [p.f3, p.f4]) W)) := fun W hW => by
            have hc := Grow.cells hW
            refine c_l02Ok b 3 p.k [p.f0, p.f1, p.f2] [p.f3, p.f4] W ?_ (three _ ?_ ?_ ?_) (two _ ?_ ?_) <;> rw [hc _ _ hb'] <;> assumption
          have K3 : Hid (∀ W g, W.heap[g]? = some (.cells #[.float .f32 p.x1, .float .f32 p.x2, .float .f32 p.x3] 25) → Calls Tryd.prog 49 #[.slice (some ⟨g, 0, none⟩) 3 3] W (RetB (finTo [p.x1, p.x2, p.x3] 3) W)) := fun W g hg => c_nums3 W g _ _ _ hg
          clear hb
          cases t1 : okF p.k [p.f0, p.f1, p.f2] [p.f3, p.f4]
          · rw [t1] at K1
            have T1 := Lib.hid t1
            clear t1
            go_wp2
            refine wp_region_grow [] [] (by kernel_rfl) (by kernel_rfl) (by kernel_rfl) ?_
            apply Exists.intro
            iterate 3 (apply lh_o; kernel_rfl; kernel_rfl; kernel_rfl; (intro W hW; have hWc := Grow.cells hW; go_simp; exact ⟨OneV.mk _, Grow.refl _⟩))
            (apply lh_o; kernel_rfl; kernel_rfl; kernel_rfl; (intro W hW; go_simp; first | exact gB (K1.out _ hW) | exact gV (K1.out _ hW)))
            (apply lh_o; kernel_rfl; kernel_rfl; kernel_rfl; (intro W hW; have hWc := Grow.cells hW; go_simp; exact ⟨OneV.mk _, Grow.refl _⟩))
            iterate 6 (apply lh_skip; kernel_rfl; kernel_rfl)
            iterate 2 (apply lh_o; kernel_rfl; kernel_rfl; kernel_rfl; (intro W hW; have hWc := Grow.cells hW; go_simp; exact ⟨OneV.mk _, Grow.refl _⟩))
            iterate 14 (apply lh_skip; kernel_rfl; kernel_rfl)
            iterate 2 (apply lh_o; kernel_rfl; kernel_rfl; kernel_rfl; (intro W hW; have hWc := Grow.cells hW; go_simp; exact ⟨OneV.mk _, Grow.refl _⟩))
            (refine lh_nil ?_; intro W hW; simp only [Act.put, List.setIfInBounds_toArray, List.set_cons_succ, List.set_cons_zero])
            go_wp2
            go_ret
            exact ⟨by rw [HL.out, HS.out, T1.out]; rfl, bW.trans (Below.mono hW hz.out)⟩
          rw [t1] at K1
          have T1 := Lib.hid t1
          clear t1
          cases t2 : p.k == 1
          · have T2 := Lib.hid t2
            go_wp2
            refine wp_region_grow [] [] (by kernel_rfl) (by kernel_rfl) (by kernel_rfl) ?_
            apply Exists.intro
            iterate 3 (apply lh_o; kernel_rfl; kernel_rfl; kernel_rfl; (intro W hW; have hWc := Grow.cells hW; go_simp; exact ⟨OneV.mk _, Grow.refl _⟩))
            (apply lh_o; kernel_rfl; kernel_rfl; kernel_rfl; (intro W hW; go_simp; first | exact gB (K1.out _ hW) | exact gV (K1.out _ hW)))
            iterate 9 (apply lh_o; kernel_rfl; kernel_rfl; kernel_rfl; (intro W hW; have hWc := Grow.cells hW; go_simp; exact ⟨OneV.mk _, Grow.refl _⟩))
            iterate 14 (apply lh_skip; kernel_rfl; kernel_rfl)
            iterate 2 (apply lh_o; kernel_rfl; kernel_rfl; kernel_rfl; (intro W hW; have hWc := Grow.cells hW; go_simp; exact ⟨OneV.mk _, Grow.refl _⟩))
            (refine lh_nil ?_; intro W hW; simp only [Act.put, List.setIfInBounds_toArray, List.set_cons_succ, List.set_cons_zero])
            go_wp2
            go_ret
            exact ⟨by rw [HL.out, HS.out, T1.out, T2.out]; rfl, bW.trans (Below.mono hW hz.out)⟩
          have T2 := Lib.hid t2
          go_wp2
          refine wp_region_grow [26] [25] (by kernel_rfl) (by kernel_rfl) (by kernel_rfl) ?_
          apply Exists.intro
          iterate 3 (apply lh_o; kernel_rfl; kernel_rfl; kernel_rfl; (intro W hW; have hWc := Grow.cells hW; go_simp; exact ⟨OneV.mk _, Grow.refl _⟩))
          (apply lh_o; kernel_rfl; kernel_rfl; kernel_rfl; (intro W hW; go_simp; first | exact gB (K1.out _ hW) | exact gV (K1.out _ hW)))
          iterate 21 (apply lh_o; kernel_rfl; kernel_rfl; kernel_rfl; (intro W hW; have hWc := Grow.cells hW; go_simp; exact ⟨OneV.mk _, Grow.refl _⟩))
          (apply lh_new; kernel_rfl; kernel_rfl; kernel_rfl; (intro W hW; have hWc := Grow.cells hW; go_simp; exact ⟨NewAt.mk _ _ _ _, Grow.alloc _ _⟩); intro g hfr)
          (apply lh_h; kernel_rfl; kernel_rfl; kernel_rfl; (intro W hW; go_simp; first | exact gB (K3.out _ _ hW.2) | exact gV (K3.out _ _ hW.2)))
          iterate 2 (apply lh_o; kernel_rfl; kernel_rfl; kernel_rfl; (intro W hW; have hWc := Grow.cells hW; go_simp; exact ⟨OneV.mk _, Grow.refl _⟩))
          (refine lh_nil ?_; intro W hW; simp only [Act.put, List.setIfInBounds_toArray, List.set_cons_succ, List.set_cons_zero])
          go_wp2
          go_ret
          exact ⟨by rw [HL.out, HS.out, T1.out, T2.out]; rfl, bW.trans (Below.mono hW.1 hz.out)⟩
end Go.Proofs.YtbdanadmabemdaaDoor
namespace Go.Proofs.YtbdanadmabemdaaDoor
open Go Go.RowKit Fl
theorem c_notInside (a : Nat) (w : World) : Calls Tryd.prog 67 #[.float .f32 a] w (RetB (!insB a 3212836864 1065353216) w) := by
  go_enter Tryd.func67, Tryd.ntmps67
  go_wp2_with (go_at_call 68; refine (c_inside _ _ _ _).mono ?_; rintro e w' ⟨rfl, n1, rfl⟩)
  go_ret
  exact ⟨rfl, same1 _ _⟩
theorem c_IndexFuncP (a : Option Addr) (n c : Nat) (xs : List Nat) (w : World) (h : FS w a n c xs) :
    Calls Tryd.prog 88 #[.slice a n c, .func (.func 67) #[] #[]] w (RetIdx (!scTo xs n) w) := by
  obtain ⟨hl, hcap, hbig, hat⟩ := h
  have HA := Lib.hid hat
  clear hat
  go_enter Tryd.func88, Tryd.ntmps88
  go_wp2
  go_loopw [8] (fun i wr => ∃ k : Nat, k ≤ n ∧ i = .int .i64 k ∧ Hid (scTo xs k = true) ∧ ∃ q, wr = w.drewN q) (fun i _ => n - (intOf i).toNat)
  case atStart => exact ⟨0, by omega, rfl, rfl, 0, rfl⟩
  case round =>
    obtain ⟨k, hk, rfl, hall, q, rfl⟩ := hrel
    by_cases hlt : k < n
    · obtain ⟨b, o, rfl, hbl, hcell⟩ := HA.out (by omega)
      have hc := hcell k hlt
      clear HA hcell
      cases hf : insB (nth xs k) 3212836864 1065353216
      · have HU := Lib.hid (scTo_false hf n hlt)
        go_wp2_with (go_at_call 67; refine (c_notInside _ _).mono ?_; rintro e w' ⟨rfl, n1, rfl⟩)
        go_ret
        exact ⟨k, rfl, by rw [HU.out]; simp, same1 _ _⟩
      · have HU : Hid (scTo xs (k + 1) = true) := by rw [scTo, hall.out, hf]; rfl
        go_wp2_with (go_at_call 67; refine (c_notInside _ _).mono ?_; rintro e w' ⟨rfl, n1, rfl⟩)
        go_roundw
        case rel => exact ⟨k + 1, by omega, by go_num, HU, same1 _ _⟩
        case measure => simp [intOf]; omega
    · obtain rfl : k = n := by omega
      go_wp2
      go_ret
      exact ⟨-1, rfl, by rw [hall.out]; rfl, same1 _ _⟩
theorem c_ContainsFuncP (a : Option Addr) (n c : Nat) (xs : List Nat) (w : World) (h : FS w a n c xs) :
    Calls Tryd.prog 66 #[.slice a n c, .func (.func 67) #[] #[]] w (RetB (!scTo xs n) w) := by
  have H := Lib.hid h
  clear h
  go_enter Tryd.func66, Tryd.ntmps66
  go_wp2_with fail
  refine (c_IndexFuncP _ _ _ xs _ H.out).mono ?_
  rintro e w' ⟨i, rfl, hi, n1, rfl⟩
  go_wp2
  go_ret
  exact ⟨by simp, same1 _ _⟩
theorem pipeB_i1 {n1 : Nat} {rs1 : List Rg} {n2 : Nat} {rs2 : List Rg} {n3 : Nat} {xs3 : List Nat} {p : Pn} (h : inB n1 1 3 = false) : pipeB n1 rs1 n2 rs2 n3 xs3 p = false := by
  unfold pipeB; rw [h]; rfl
theorem pipeB_i2 {n1 : Nat} {rs1 : List Rg} {n2 : Nat} {rs2 : List Rg} {n3 : Nat} {xs3 : List Nat} {p : Pn} (h : ¬ (n2 : Int) = n1) : pipeB n1 rs1 n2 rs2 n3 xs3 p = false := by
  unfold pipeB; rw [decide_eq_false h]; simp
theorem pipeB_i3 {n1 : Nat} {rs1 : List Rg} {n2 : Nat} {rs2 : List Rg} {n3 : Nat} {xs3 : List Nat} {p : Pn} (h : ¬ (n3 : Int) = n1 - 1) : pipeB n1 rs1 n2 rs2 n3 xs3 p = false := by
  unfold pipeB; rw [decide_eq_false h]; simp
/-- the first k rings of both lists are valid, and pairwise as long -/
def prTo (rs ss : List Rg) : Nat → Bool
  | 0 => true
  | k + 1 => prTo rs ss k && ((rat rs k).ok && ((rat ss k).ok && decide (((rat rs k).n : Int) = (rat ss k).n)))
theorem prTo_eq (rs ss : List Rg) : ∀ k, prTo rs ss k = (rgsTo rs k && (rgsTo ss k && lenTo rs ss k))
  | 0 => rfl
  | k + 1 => by
    rw [prTo, prTo_eq rs ss k, rgsTo, rgsTo, lenTo]
    cases rgsTo rs k <;> cases rgsTo ss k <;> cases lenTo rs ss k <;> cases (rat rs k).ok <;> cases (rat ss k).ok <;> simp
theorem prTo_false {rs ss : List Rg} {k : Nat} (h : ((rat rs k).ok && ((rat ss k).ok && decide (((rat rs k).n : Int) = (rat ss k).n))) = false) : ∀ n, k < n → prTo rs ss n = false
  | 0, hn => absurd hn (by omega)
  | n + 1, hn => by
    by_cases e : k = n
    · subst e; rw [prTo, h, Bool.and_false]
    · rw [prTo, prTo_false h n (by omega), Bool.false_and]
theorem pipeB_in {n1 : Nat} {rs1 : List Rg} {n2 : Nat} {rs2 : List Rg} {n3 : Nat} {xs3 : List Nat} {p : Pn} (h1 : inB n1 1 3 = true) (h2 : (n2 : Int) = n1) (h3 : (n3 : Int) = n1 - 1) :
    pipeB n1 rs1 n2 rs2 n3 xs3 p = ((okF p.k [p.f0, p.f1, p.f2] [p.f3, p.f4] && (p.k == 1)) && (finTo [p.x1, p.x2, p.x3] 3 && (prTo rs1 rs2 n1 && scTo xs3 n3))) := by
  unfold pipeB; rw [h1, decide_eq_true h2, decide_eq_true h3, prTo_eq]
  cases rgsTo rs1 n1 <;> cases rgsTo rs2 n1 <;> cases lenTo rs1 rs2 n1 <;> cases scTo xs3 n3 <;> cases okF p.k [p.f0, p.f1, p.f2] [p.f3, p.f4] <;> cases (p.k == 1) <;> cases finTo [p.x1, p.x2, p.x3] 3 <;> rfl
set_option maxRecDepth 100000 in
set_option maxHeartbeats 4000000 in
theorem c_ValidPipe (a1 : Option Addr) (n1 c1 : Nat) (rs1 : List Rg) (a2 : Option Addr) (n2 c2 : Nat) (rs2 : List Rg) (a3 : Option Addr) (n3 c3 : Nat) (xs3 : List Nat) (p : Pn) (op : Bool) (w : World) (h1 : RS w a1 n1 c1 rs1) (h2 : RS w a2 n2 c2 rs2) (h3 : FS w a3 n3 c3 xs3) :
    Calls Tryd.prog 42 #[.agg #[.slice a1 n1 c1, .slice a2 n2 c2, .slice a3 n3 c3, .int .i64 p.k, .float .f32 p.f0, .float .f32 p.f1, .float .f32 p.f2, .float .f32 p.f3, .float .f32 p.f4, .bool op, .float .f32 p.x1, .float .f32 p.x2, .float .f32 p.x3]] w (RetV (.bool (pipeB n1 rs1 n2 rs2 n3 xs3 p)) w) := by
  have m1 : n1 ≤ 9223372036854775807 := Nat.le_trans h1.cap h1.big
  have m2 : n2 ≤ 9223372036854775807 := Nat.le_trans h2.cap h2.big
  have m3 : n3 ≤ 9223372036854775807 := Nat.le_trans h3.cap h3.big
  have H1 := Lib.hid h1
  have H2 := Lib.hid h2
  have H3 := Lib.hid h3
  clear h1 h2 h3
  have KI : Hid (∀ W, Calls Tryd.prog 65 #[.int .i64 n1, .int .i64 1, .int .i64 3] W (RetB (inB n1 1 3) W)) := fun W => c_within _ _ _ W
  cases i1 : inB n1 1 3
  · rw [i1] at KI
    rw [pipeB_i1 i1]
    clear i1
    go_enter Tryd.func42, Tryd.ntmps42
    go_wp2_with fail
    refine (KI.out _).mono ?_
    rintro e w' ⟨rfl, d1, rfl⟩
    go_wp2
    go_ret
    exact ⟨rfl, by (repeat (first | (with_reducible refine Below.drewN ?_) | (with_reducible refine Below.drew ?_) | ((with_reducible refine Below.alloc ?_ ?_ _); rotate_left; (first | omega | (simp <;> omega))) | ((with_reducible refine Below.setCell ?_ ?_ _); rotate_left; (first | omega | (simp <;> omega))) | (with_reducible exact Below.refl _ _) | (with_reducible assumption)))⟩
  rw [i1] at KI
  by_cases q3 : (n2 : Int) = n1
  rotate_left
  · rw [pipeB_i2 q3]
    clear i1
    go_enter Tryd.func42, Tryd.ntmps42
    go_wp2_with fail
    refine (KI.out _).mono ?_
    rintro e w' ⟨rfl, d1, rfl⟩
    go_wp2
    go_ret
    exact ⟨rfl, by (repeat (first | (with_reducible refine Below.drewN ?_) | (with_reducible refine Below.drew ?_) | ((with_reducible refine Below.alloc ?_ ?_ _); rotate_left; (first | omega | (simp <;> omega))) | ((with_reducible refine Below.setCell ?_ ?_ _); rotate_left; (first | omega | (simp <;> omega))) | (with_reducible exact Below.refl _ _) | (with_reducible assumption)))⟩
  have I1 := inB_yes i1
  by_cases q4 : (n3 : Int) = n1 - 1
  rotate_left
  · rw [pipeB_i3 q4]
    clear i1
    have wr : IntKind.i64.wrap ((n1 : Int) - 1) = (n1 : Int) - 1 := IntWalk.i64_in _ (by omega)
    go_enter Tryd.func42, Tryd.ntmps42
    go_wp2_with fail
    refine (KI.out _).mono ?_
    rintro e w' ⟨rfl, d1, rfl⟩
    go_wp2
    go_ret
    exact ⟨rfl, by (repeat (first | (with_reducible refine Below.drewN ?_) | (with_reducible refine Below.drew ?_) | ((with_reducible refine Below.alloc ?_ ?_ _); rotate_left; (first | omega | (simp <;> omega))) | ((with_reducible refine Below.setCell ?_ ?_ _); rotate_left; (first | omega | (simp <;> omega))) | (with_reducible exact Below.refl _ _) | (with_reducible assumption)))⟩
  rw [pipeB_in i1 q3 q4]
  obtain rfl : n2 = n1 := by omega
  obtain rfl : n3 = n2 - 1 := by omega
  have wr : IntKind.i64.wrap ((n2 : Int) - 1) = ((n2 - 1 : Nat) : Int) := by rw [← q4]; exact IntWalk.i64_in _ (by omega)
  have J1 := Lib.hid I1
  clear i1 q3 q4 I1
  have KF : Hid (∀ W, Calls Tryd.prog 56 #[.agg #[.int .i64 p.k, .float .f32 p.f0, .float .f32 p.f1, .float .f32 p.f2, .float .f32 p.f3, .float .f32 p.f4], .int .i64 1] W (RetV (.bool (okF p.k [p.f0, p.f1, p.f2] [p.f3, p.f4] && (p.k == 1))) W)) := fun W => c_isFilter _ _ _ _ _ _ _ W
  have KN : Hid (∀ W g, FS W (some ⟨g, 0, none⟩) 3 3 [p.x1, p.x2, p.x3] → Calls Tryd.prog 57 #[.slice (some ⟨g, 0, none⟩) 3 3] W (RetB (finTo [p.x1, p.x2, p.x3] 3) W)) := fun W g hf => c_areFinite _ _ _ _ W hf
  generalize hA : (okF p.k [p.f0, p.f1, p.f2] [p.f3, p.f4] && (p.k == 1)) = A at *
  cases A
  · clear hA
    go_enter Tryd.func42, Tryd.ntmps42
    go_wp2_with fail
    refine (KI.out _).mono ?_
    rintro e w' ⟨rfl, d1, rfl⟩
    go_wp2_with fail
    refine (KF.out _).mono ?_
    rintro e w1 ⟨rfl, hb1⟩
    obtain ⟨hc1, hf1, hz1⟩ := bcell hb1
    try simp at hz1
    have zb1 : w.heap.size ≤ w1.heap.size := by omega
    try (have z1_0 : w.heap.size < w1.heap.size := by omega)
    try (have z1_1 : w.heap.size + 1 < w1.heap.size := by omega)
    try (have z1_2 : w.heap.size + 1 + 1 < w1.heap.size := by omega)
    try (have z1_3 : w.heap.size + 1 + 1 + 1 < w1.heap.size := by omega)
    have b1 : Below w.heap.size w w1 := Below.trans (by (repeat (first | (with_reducible refine Below.drewN ?_) | (with_reducible refine Below.drew ?_) | ((with_reducible refine Below.alloc ?_ ?_ _); rotate_left; (first | omega | (simp <;> omega))) | ((with_reducible refine Below.setCell ?_ ?_ _); rotate_left; (first | omega | (simp <;> omega))) | (with_reducible exact Below.refl _ _) | (with_reducible assumption)))) (hb1.mono (by first | omega | (simp <;> omega)))
    go_wp2
    go_ret
    exact ⟨rfl, by (repeat (first | (with_reducible refine Below.drewN ?_) | (with_reducible refine Below.drew ?_) | ((with_reducible refine Below.alloc ?_ ?_ _); rotate_left; (first | omega | (simp <;> omega))) | ((with_reducible refine Below.setCell ?_ ?_ _); rotate_left; (first | omega | (simp <;> omega))) | (with_reducible exact Below.refl _ _) | (with_reducible assumption)))⟩
  clear hA
  generalize hN : finTo [p.x1, p.x2, p.x3] 3 = N at *
  cases N
  · clear hN
    go_enter Tryd.func42, Tryd.ntmps42
    go_wp2_with fail
    refine (KI.out _).mono ?_
    rintro e w' ⟨rfl, d1, rfl⟩
    go_wp2_with fail
    refine (KF.out _).mono ?_
    rintro e w1 ⟨rfl, hb1⟩
    obtain ⟨hc1, hf1, hz1⟩ := bcell hb1
    try simp at hz1
    have zb1 : w.heap.size ≤ w1.heap.size := by omega
    try (have z1_0 : w.heap.size < w1.heap.size := by omega)
    try (have z1_1 : w.heap.size + 1 < w1.heap.size := by omega)
    try (have z1_2 : w.heap.size + 1 + 1 < w1.heap.size := by omega)
    try (have z1_3 : w.heap.size + 1 + 1 + 1 < w1.heap.size := by omega)
    have b1 : Below w.heap.size w w1 := Below.trans (by (repeat (first | (with_reducible refine Below.drewN ?_) | (with_reducible refine Below.drew ?_) | ((with_reducible refine Below.alloc ?_ ?_ _); rotate_left; (first | omega | (simp <;> omega))) | ((with_reducible refine Below.setCell ?_ ?_ _); rotate_left; (first | omega | (simp <;> omega))) | (with_reducible exact Below.refl _ _) | (with_reducible assumption)))) (hb1.mono (by first | omega | (simp <;> omega)))
    go_wp2_with fail
    refine (KN.out _ _ (OF.fs (g := _) (OF.made' (xs := [p.x1, p.x2, p.x3]) (by simp) rfl (by omega)))).mono ?_
    rintro e w' ⟨rfl, d2, rfl⟩
    go_wp2
    go_ret
    exact ⟨rfl, by (repeat (first | (with_reducible refine Below.drewN ?_) | (with_reducible refine Below.drew ?_) | ((with_reducible refine Below.alloc ?_ ?_ _); rotate_left; (first | omega | (simp <;> omega))) | ((with_reducible refine Below.setCell ?_ ?_ _); rotate_left; (first | omega | (simp <;> omega))) | (with_reducible exact Below.refl _ _) | (with_reducible assumption)))⟩
  clear hN
  obtain ⟨b1, o1, rfl, hbl1, hcell1⟩ := H1.out.at_ (by have := J1.out; omega)
  obtain ⟨b2, o2, rfl, hbl2, hcell2⟩ := H2.out.at_ (by have := J1.out; omega)
  have C1 := Lib.hid hcell1
  have C2 := Lib.hid hcell2
  clear hcell1 hcell2 H1 H2
  go_enter Tryd.func42, Tryd.ntmps42
  go_wp2_with fail
  refine (KI.out _).mono ?_
  rintro e w' ⟨rfl, d1, rfl⟩
  go_wp2_with fail
  refine (KF.out _).mono ?_
  rintro e w1 ⟨rfl, hb1⟩
  obtain ⟨hc1, hf1, hz1⟩ := bcell hb1
  try simp at hz1
  have zb1 : w.heap.size ≤ w1.heap.size := by omega
  try (have z1_0 : w.heap.size < w1.heap.size := by omega)
  try (have z1_1 : w.heap.size + 1 < w1.heap.size := by omega)
  try (have z1_2 : w.heap.size + 1 + 1 < w1.heap.size := by omega)
  try (have z1_3 : w.heap.size + 1 + 1 + 1 < w1.heap.size := by omega)
  have b1 : Below w.heap.size w w1 := Below.trans (by (repeat (first | (with_reducible refine Below.drewN ?_) | (with_reducible refine Below.drew ?_) | ((with_reducible refine Below.alloc ?_ ?_ _); rotate_left; (first | omega | (simp <;> omega))) | ((with_reducible refine Below.setCell ?_ ?_ _); rotate_left; (first | omega | (simp <;> omega))) | (with_reducible exact Below.refl _ _) | (with_reducible assumption)))) (hb1.mono (by first | omega | (simp <;> omega)))
  go_wp2_with fail
  refine (KN.out _ _ (OF.fs (g := _) (OF.made' (xs := [p.x1, p.x2, p.x3]) (by simp) rfl (by omega)))).mono ?_
  rintro e w' ⟨rfl, d2, rfl⟩
  clear KI KF KN
  go_upto_region 5 with fail
  refine wp_named ?_
  intro W0 hW0
  have bW : Below w.heap.size w W0 := by rw [hW0]; (repeat (first | (with_reducible refine Below.drewN ?_) | (with_reducible refine Below.drew ?_) | ((with_reducible refine Below.alloc ?_ ?_ _); rotate_left; (first | omega | (simp <;> omega))) | ((with_reducible refine Below.setCell ?_ ?_ _); rotate_left; (first | omega | (simp <;> omega))) | (with_reducible exact Below.refl _ _) | (with_reducible assumption)))
  have zW : w.heap.size < W0.heap.size := by rw [hW0]; simp; omega
  have e1 : W0.cell? ⟨w.heap.size, 1, none⟩ = some (.slice (some ⟨b2, o2, none⟩) n2 c2) := by rw [hW0]; simp [go_sem, *]
  have e2 : W0.cell? ⟨w.heap.size, 2, none⟩ = some (.slice a3 (n2 - 1) c3) := by rw [hW0]; simp [go_sem, *]
  clear hW0 hc1 hf1 hz1 zb1 b1 hb1
  try clear z1_0
  try clear z1_1
  try clear z1_2
  try clear z1_3
  go_loopw [4, 5, 47] (fun _ _ i wr => ∃ k : Nat, k ≤ n2 ∧ i = .int .i64 k ∧ Hid (prTo rs1 rs2 k = true) ∧ Below W0.heap.size W0 wr) (fun _ _ i _ => n2 - (intOf i).toNat)
  case atStart => exact ⟨0, by omega, rfl, rfl, Below.refl _ _⟩
  case round =>
    obtain ⟨k, hk, rfl, hall, hbe⟩ := hrel
    obtain ⟨hcW, hfW, hzW⟩ := bcell hbe
    have zL : w.heap.size < wr.heap.size := by omega
    have BW := Lib.hid (bW.trans (hbe.mono bW.size))
    have E1 : wr.cell? ⟨w.heap.size, 1, none⟩ = some (.slice (some ⟨b2, o2, none⟩) n2 c2) := by rw [hcW _ _ zW]; exact e1
    have E2 : wr.cell? ⟨w.heap.size, 2, none⟩ = some (.slice a3 (n2 - 1) c3) := by rw [hcW _ _ zW]; exact e2
    have HBE := Lib.hid hbe
    clear e1 e2 hcW hfW hzW hbe bW zW
    by_cases hlt : k < n2
    · have r1 := (C1.out k hlt).below BW.out (Nat.le_refl _) hbl1
      have r2 := (C2.out k hlt).below BW.out (Nat.le_refl _) hbl2
      have y1 : b1 < wr.heap.size := by omega
      have y2 : b2 < wr.heap.size := by omega
      have u0 := r1.c0
      have u1 := r1.c1
      have v0 := r2.c0
      have v1 := r2.c1
      have F1 := Lib.hid r1.fs
      have F2 := Lib.hid r2.fs
      have e0 : (rat rs1 k).ok = (ringB (rat rs1 k).n (rat rs1 k).i && finTo (rat rs1 k).xs (rat rs1 k).n) := rfl
      have e0' : (rat rs2 k).ok = (ringB (rat rs2 k).n (rat rs2 k).i && finTo (rat rs2 k).xs (rat rs2 k).n) := rfl
      have e0 := Lib.hid e0
      have e0' := Lib.hid e0'
      clear r1 r2
      go_upto_region 7 with fail
      refine wp_named ?_
      intro W1 hW1
      have gW : Below wr.heap.size wr W1 := by rw [hW1]; (repeat (first | (with_reducible refine Below.drewN ?_) | (with_reducible refine Below.drew ?_) | ((with_reducible refine Below.alloc ?_ ?_ _); rotate_left; (first | omega | (simp <;> omega))) | ((with_reducible refine Below.setCell ?_ ?_ _); rotate_left; (first | omega | (simp <;> omega))) | (with_reducible exact Below.refl _ _) | (with_reducible assumption)))
      have zz : W1.heap.size = wr.heap.size + 1 := by rw [hW1]; simp
      have t0 : W1.cell? ⟨wr.heap.size, 0, none⟩ = some (.slice (rat rs1 k).a (rat rs1 k).n (rat rs1 k).c) := by rw [hW1]; simp [go_sem, *]
      have t1 : W1.cell? ⟨wr.heap.size, 1, none⟩ = some (.int .i64 (rat rs1 k).i) := by rw [hW1]; simp [go_sem, *]
      clear hW1
      have z1 : wr.heap.size < W1.heap.size := by omega
      have z2 : w.heap.size < W1.heap.size := by omega
      have z3 : b2 < W1.heap.size := by omega
      have Z := Lib.hid zz
      clear zz
      have hc := (bcell gW).1
      rw [← hc _ _ zL] at E1
      rw [← hc _ _ y2] at v0
      rw [← hc _ _ y2] at v1
      have GW := Lib.hid gW
      clear hc gW E2 u0 u1
      have R1 : Hid (∀ W, Grow W1 W → Calls Tryd.prog 55 #[.agg #[.slice (rat rs1 k).a (rat rs1 k).n (rat rs1 k).c, .int .i64 (rat rs1 k).i]] W (RetV (.bool (rat rs1 k).ok) W)) := fun W hW => e0.out ▸ c_isRing _ _ _ _ _ W (F1.out.below (GW.out.trans (Below.mono hW GW.out.size)) (Nat.le_refl _))
      have R2 : Hid (∀ W, Grow W1 W → Calls Tryd.prog 55 #[.agg #[.slice (rat rs2 k).a (rat rs2 k).n (rat rs2 k).c, .int .i64 (rat rs2 k).i]] W (RetV (.bool (rat rs2 k).ok) W)) := fun W hW => e0'.out ▸ c_isRing _ _ _ _ _ W (F2.out.below (GW.out.trans (Below.mono hW GW.out.size)) (Nat.le_refl _))
      have PF : Hid (((rat rs1 k).ok && ((rat rs2 k).ok && decide (((rat rs1 k).n : Int) = (rat rs2 k).n))) = false → prTo rs1 rs2 n2 = false) := fun h => prTo_false h n2 hlt
      have PT : Hid (((rat rs1 k).ok && ((rat rs2 k).ok && decide (((rat rs1 k).n : Int) = (rat rs2 k).n))) = true → prTo rs1 rs2 (k + 1) = true) := fun h => by rw [prTo, hall.out, h]; rfl
      clear e0 e0' F1 F2 hall C1 C2 hbl1 hbl2
      cases o1 : (rat rs1 k).ok
      · rw [o1] at R1
        have HU := Lib.hid (PF.out (by rw [o1]; rfl))
        clear PF PT R2 o1
        refine wp_region_grow [] [] (by kernel_rfl) (by kernel_rfl) (by kernel_rfl) ?_
        apply Exists.intro
        (apply lh_o; kernel_rfl; kernel_rfl; kernel_rfl; (intro W hW; have hWc := Grow.cells hW; go_simp; exact ⟨OneV.mk _, Grow.refl _⟩))
        (apply lh_o; kernel_rfl; kernel_rfl; kernel_rfl; (intro W hW; go_simp; first | exact gB (R1.out _ hW) | exact gV (R1.out _ hW)))
        iterate 2 (apply lh_o; kernel_rfl; kernel_rfl; kernel_rfl; (intro W hW; have hWc := Grow.cells hW; go_simp; exact ⟨OneV.mk _, Grow.refl _⟩))
        iterate 7 (apply lh_skip; kernel_rfl; kernel_rfl)
        iterate 2 (apply lh_o; kernel_rfl; kernel_rfl; kernel_rfl; (intro W hW; have hWc := Grow.cells hW; go_simp; exact ⟨OneV.mk _, Grow.refl _⟩))
        iterate 11 (apply lh_skip; kernel_rfl; kernel_rfl)
        (apply lh_o; kernel_rfl; kernel_rfl; kernel_rfl; (intro W hW; have hWc := Grow.cells hW; go_simp; exact ⟨OneV.mk _, Grow.refl _⟩))
        (refine lh_nil ?_; intro W hW; simp only [Act.put, List.setIfInBounds_toArray, List.set_cons_succ, List.set_cons_zero])
        go_wp2
        go_ret
        exact ⟨by rw [HU.out]; rfl, BW.out.trans (Below.mono (GW.out.trans (Below.mono hW GW.out.size)) (by have := BW.out.size; omega))⟩
      rw [o1] at R1
      cases o2 : (rat rs2 k).ok
      · rw [o2] at R2
        have HU := Lib.hid (PF.out (by rw [o2]; simp))
        clear PF PT o1 o2
        refine wp_region_grow [] [] (by kernel_rfl) (by kernel_rfl) (by kernel_rfl) ?_
        apply Exists.intro
        (apply lh_o; kernel_rfl; kernel_rfl; kernel_rfl; (intro W hW; have hWc := Grow.cells hW; go_simp; exact ⟨OneV.mk _, Grow.refl _⟩))
        (apply lh_o; kernel_rfl; kernel_rfl; kernel_rfl; (intro W hW; go_simp; first | exact gB (R1.out _ hW) | exact gV (R1.out _ hW)))
        iterate 7 (apply lh_o; kernel_rfl; kernel_rfl; kernel_rfl; (intro W hW; have hWc := Grow.cells hW; go_simp; exact ⟨OneV.mk _, Grow.refl _⟩))
        (apply lh_o; kernel_rfl; kernel_rfl; kernel_rfl; (intro W hW; go_simp; first | exact gB (R2.out _ hW) | exact gV (R2.out _ hW)))
        iterate 3 (apply lh_o; kernel_rfl; kernel_rfl; kernel_rfl; (intro W hW; have hWc := Grow.cells hW; go_simp; exact ⟨OneV.mk _, Grow.refl _⟩))
        iterate 11 (apply lh_skip; kernel_rfl; kernel_rfl)
        (apply lh_o; kernel_rfl; kernel_rfl; kernel_rfl; (intro W hW; have hWc := Grow.cells hW; go_simp; exact ⟨OneV.mk _, Grow.refl _⟩))
        (refine lh_nil ?_; intro W hW; simp only [Act.put, List.setIfInBounds_toArray, List.set_cons_succ, List.set_cons_zero])
        go_wp2
        go_ret
        exact ⟨by rw [HU.out]; rfl, BW.out.trans (Below.mono (GW.out.trans (Below.mono hW GW.out.size)) (by have := BW.out.size; omega))⟩
      rw [o2] at R2
      by_cases o3 : ((rat rs1 k).n : Int) = (rat rs2 k).n
      · have HU := Lib.hid (PT.out (by rw [o1, o2, decide_eq_true o3]; rfl))
        rw [show (rat rs2 k).n = (rat rs1 k).n by omega] at v0 R2
        clear PF PT o1 o2 o3
        refine wp_region_grow [] [] (by kernel_rfl) (by kernel_rfl) (by kernel_rfl) ?_
        apply Exists.intro
        (apply lh_o; kernel_rfl; kernel_rfl; kernel_rfl; (intro W hW; have hWc := Grow.cells hW; go_simp; exact ⟨OneV.mk _, Grow.refl _⟩))
        (apply lh_o; kernel_rfl; kernel_rfl; kernel_rfl; (intro W hW; go_simp; first | exact gB (R1.out _ hW) | exact gV (R1.out _ hW)))
        iterate 7 (apply lh_o; kernel_rfl; kernel_rfl; kernel_rfl; (intro W hW; have hWc := Grow.cells hW; go_simp; exact ⟨OneV.mk _, Grow.refl _⟩))
        (apply lh_o; kernel_rfl; kernel_rfl; kernel_rfl; (intro W hW; go_simp; first | exact gB (R2.out _ hW) | exact gV (R2.out _ hW)))
        iterate 15 (apply lh_o; kernel_rfl; kernel_rfl; kernel_rfl; (intro W hW; have hWc := Grow.cells hW; go_simp; exact ⟨OneV.mk _, Grow.refl _⟩))
        (refine lh_nil ?_; intro W hW; simp only [Act.put, List.setIfInBounds_toArray, List.set_cons_succ, List.set_cons_zero])
        go_wp2
        go_roundw
        case rel => exact ⟨k + 1, by omega, by go_num, HU, HBE.out.trans (Below.mono (GW.out.trans (Below.mono hW GW.out.size)) HBE.out.size)⟩
        case measure => simp [intOf]; omega
      · have HU := Lib.hid (PF.out (by rw [decide_eq_false o3]; simp))
        clear PF PT o1 o2
        refine wp_region_grow [] [] (by kernel_rfl) (by kernel_rfl) (by kernel_rfl) ?_
        apply Exists.intro
        (apply lh_o; kernel_rfl; kernel_rfl; kernel_rfl; (intro W hW; have hWc := Grow.cells hW; go_simp; exact ⟨OneV.mk _, Grow.refl _⟩))
        (apply lh_o; kernel_rfl; kernel_rfl; kernel_rfl; (intro W hW; go_simp; first | exact gB (R1.out _ hW) | exact gV (R1.out _ hW)))
        iterate 7 (apply lh_o; kernel_rfl; kernel_rfl; kernel_rfl; (intro W hW; have hWc := Grow.cells hW; go_simp; exact ⟨OneV.mk _, Grow.refl _⟩))
        (apply lh_o; kernel_rfl; kernel_rfl; kernel_rfl; (intro W hW; go_simp; first | exact gB (R2.out _ hW) | exact gV (R2.out _ hW)))
        iterate 15 (apply lh_o; kernel_rfl; kernel_rfl; kernel_rfl; (intro W hW; have hWc := Grow.cells hW; go_simp; exact ⟨OneV.mk _, Grow.refl _⟩))
        (refine lh_nil ?_; intro W hW; simp only [Act.put, List.setIfInBounds_toArray, List.set_cons_succ, List.set_cons_zero])
        go_wp2
        go_ret
        exact ⟨by rw [HU.out]; rfl, BW.out.trans (Below.mono (GW.out.trans (Below.mono hW GW.out.size)) (by have := BW.out.size; omega))⟩
    · obtain rfl : n2 = k := by omega
      have HL := Lib.hid hall.out
      clear hall C1 C2
      go_wp2_with fail
      refine (c_ContainsFuncP _ _ _ xs3 _ (FS.below (B := w.heap.size) H3.out BW.out (Nat.le_refl _))).mono ?_
      rintro e w' ⟨rfl, d3, rfl⟩
      have bE := BW.out
      go_wp2
      go_ret
      exact ⟨by rw [HL.out]; simp, by (repeat (first | (with_reducible refine Below.drewN ?_) | (with_reducible refine Below.drew ?_) | ((with_reducible refine Below.alloc ?_ ?_ _); rotate_left; (first | omega | (simp <;> omega))) | ((with_reducible refine Below.setCell ?_ ?_ _); rotate_left; (first | omega | (simp <;> omega))) | (with_reducible exact Below.refl _ _) | (with_reducible assumption)))⟩
end Go.Proofs.YtbdanadmabemdaaDoor
namespace Go.Proofs.YtbdanadmabemdaaDoor
open Go Go.RowKit Fl
theorem ok_same {rs ss : List Rg} {n j : Nat} (h : sameC rs ss n) (hj : j < n) : (rat ss j).ok = (rat rs j).ok := by
  obtain ⟨h1, h2, h3⟩ := h j hj
  unfold Rg.ok; rw [h1, h2, h3]
theorem rgsTo_same {rs ss : List Rg} {n : Nat} (h : sameC rs ss n) : ∀ k, k ≤ n → rgsTo ss k = rgsTo rs k
  | 0, _ => rfl
  | k + 1, hk => by rw [rgsTo, rgsTo, rgsTo_same h k (by omega), ok_same h (by omega)]
theorem lenTo_same {rs ss rs' ss' : List Rg} {n : Nat} (h : sameC rs rs' n) (h' : sameC ss ss' n) : ∀ k, k ≤ n → lenTo rs' ss' k = lenTo rs ss k
  | 0, _ => rfl
  | k + 1, hk => by rw [lenTo, lenTo, lenTo_same h h' k (by omega), (h k (by omega)).1, (h' k (by omega)).1]
theorem pipeB_same {n1 : Nat} {rs1 : List Rg} {n2 : Nat} {rs2 : List Rg} {n3 : Nat} {xs3 : List Nat} {p : Pn} {ss1 ss2 : List Rg} (h1 : sameC rs1 ss1 n1) (h2 : sameC rs2 ss2 n2) : pipeB n1 ss1 n2 ss2 n3 xs3 p = pipeB n1 rs1 n2 rs2 n3 xs3 p := by
  by_cases e : (n2 : Int) = n1
  · obtain rfl : n2 = n1 := by omega
    unfold pipeB
    rw [rgsTo_same h1 _ (Nat.le_refl _), rgsTo_same h2 _ (Nat.le_refl _), lenTo_same h1 h2 _ (Nat.le_refl _)]
  · rw [pipeB_i2 e, pipeB_i2 e]
theorem PBox.new (w : World) (a1 : Option Addr) (n1 c1 : Nat) (a2 : Option Addr) (n2 c2 : Nat) (a3 : Option Addr) (n3 c3 : Nat) (p : Pn) (op : Bool) (T : TypeId) :
    PBox (w.alloc (.cells #[.slice a1 n1 c1, .slice a2 n2 c2, .slice a3 n3 c3, .int .i64 p.k, .float .f32 p.f0, .float .f32 p.f1, .float .f32 p.f2, .float .f32 p.f3, .float .f32 p.f4, .bool op, .float .f32 p.x1, .float .f32 p.x2, .float .f32 p.x3] T)) w.heap.size a1 n1 c1 a2 n2 c2 a3 n3 c3 p :=
  ⟨cell_new .., cell_new .., cell_new .., cell_new .., cell_new .., cell_new .., cell_new .., cell_new .., cell_new .., cell_new .., cell_new .., cell_new ..⟩
end Go.Proofs.YtbdanadmabemdaaDoor
