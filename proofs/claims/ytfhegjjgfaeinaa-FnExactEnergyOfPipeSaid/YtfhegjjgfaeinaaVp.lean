
/-
The law of the test of pipes, joined.
-/
import Derived.Test.YtfhegjjgfaeinaaVi
import Derived.Test.YtfhegjjgfaeinaaPl
import Derived.Test.YtfhegjjgfaeinaaWValidPipe
namespace Go.Proofs.Ytfhegjjgfaeinaa
open Go Go.RowKit Fl
theorem ok_same {rs ss : List Rg} {n j : Nat} (h : sameC rs ss n) (hj : j < n) : (rat ss j).ok = (rat rs j).ok := by
  obtain ⟨h1, h2, h3⟩ := h j hj
  unfold Rg.ok; rw [h1, h2, h3]
theorem rgsTo_same {rs ss : List Rg} {n : Nat} (h : sameC rs ss n) : ∀ k, k ≤ n → rgsTo ss k = rgsTo rs k
  | 0, _ => rfl
  | k + 1, hk => by rw [rgsTo, rgsTo, rgsTo_same h k (by omega), ok_same h (by omega)]
theorem lenTo_same {rs ss rs' ss' : List Rg} {n : Nat} (h : sameC rs rs' n) (h' : sameC ss ss' n) : ∀ k, k ≤ n → lenTo rs' ss' k = lenTo rs ss k
  | 0, _ => rfl
  | k + 1, hk => by rw [lenTo, lenTo, lenTo_same h h' k (by omega), (h k (by omega)).1, (h' k (by omega)).1]
theorem pipeB_same {n1 : Nat} {rs1 : List Rg} {n2 : Nat} {rs2 : List Rg} {n3 : Nat} {xs3 : List Nat} {p : Pn} {ss1 ss2 : List Rg} (h1 : sameC rs1 ss1 n1) (h2 : sameC rs2 ss2 n2) : pipeB n1 ss1 n2 ss2 n3 xs3 p = pipeB n1 rs1 n2 rs2 n3 xs3 p := by
  by_cases e : (n2 : Int) = n1
  · obtain rfl : n2 = n1 := by omega
    unfold pipeB
    rw [rgsTo_same h1 _ (Nat.le_refl _), rgsTo_same h2 _ (Nat.le_refl _), lenTo_same h1 h2 _ (Nat.le_refl _)]
  · rw [pipeB_i2 e, pipeB_i2 e]
theorem PBox.new (w : World) (a1 : Option Addr) (n1 c1 : Nat) (a2 : Option Addr) (n2 c2 : Nat) (a3 : Option Addr) (n3 c3 : Nat) (p : Pn) (op : Bool) (T : TypeId) :
    PBox (w.alloc (.cells #[.slice a1 n1 c1, .slice a2 n2 c2, .slice a3 n3 c3, .int .i64 p.k, .float .f32 p.f0, .float .f32 p.f1, .float .f32 p.f2, .float .f32 p.f3, .float .f32 p.f4, .bool op, .float .f32 p.x1, .float .f32 p.x2, .float .f32 p.x3] T)) w.heap.size a1 n1 c1 a2 n2 c2 a3 n3 c3 p :=
  ⟨cell_new .., cell_new .., cell_new .., cell_new .., cell_new .., cell_new .., cell_new .., cell_new .., cell_new .., cell_new .., cell_new .., cell_new ..⟩
theorem c_sValidPipe (a1 : Option Addr) (n1 c1 : Nat) (rs1 : List Rg) (a2 : Option Addr) (n2 c2 : Nat) (rs2 : List Rg) (a3 : Option Addr) (n3 c3 : Nat) (xs3 : List Nat) (p : Pn) (op : Bool) (w : World) (h1 : RS w a1 n1 c1 rs1) (h2 : RS w a2 n2 c2 rs2) (h3 : FS w a3 n3 c3 xs3) :
    Calls Try.prog 14 #[.agg #[.slice a1 n1 c1, .slice a2 n2 c2, .slice a3 n3 c3, .int .i64 p.k, .float .f32 p.f0, .float .f32 p.f1, .float .f32 p.f2, .float .f32 p.f3, .float .f32 p.f4, .bool op, .float .f32 p.x1, .float .f32 p.x2, .float .f32 p.x3]] w (RetV (.bool (pipeB n1 rs1 n2 rs2 n3 xs3 p)) w) := by
  have H1 := Lib.hid h1
  have H2 := Lib.hid h2
  have H3 := Lib.hid h3
  clear h1 h2 h3
  go_enter Try.func14, Try.ntmps14
  go_wp2_with fail
  refine (c_l04Ok _ a1 n1 c1 rs1 a2 n2 c2 rs2 a3 n3 c3 xs3 p _ (PBox.new ..) (by simp) (RS.alloc H1.out _) (RS.alloc H2.out _) (FS.below (B := w.heap.size) H3.out (by (repeat (first | (with_reducible refine Below.drewN ?_) | (with_reducible refine Below.drew ?_) | ((with_reducible refine Below.alloc ?_ ?_ _); rotate_left; (first | omega | (simp <;> omega))) | ((with_reducible refine Below.setCell ?_ ?_ _); rotate_left; (first | omega | (simp <;> omega))) | (with_reducible exact Below.refl _ _) | (with_reducible assumption)))) (Nat.le_refl _))).mono ?_
  rintro e w1 ⟨rfl, hb1⟩
  obtain ⟨hc1, hf1, hz1⟩ := bcell hb1
  try simp at hz1
  have zb1 : w.heap.size ≤ w1.heap.size := by omega
  try (have z1_0 : w.heap.size < w1.heap.size := by omega)
  try (have z1_1 : w.heap.size + 1 < w1.heap.size := by omega)
  try (have z1_2 : w.heap.size + 1 + 1 < w1.heap.size := by omega)
  try (have z1_3 : w.heap.size + 1 + 1 + 1 < w1.heap.size := by omega)
  have b1 : Below w.heap.size w w1 := Below.trans (by (repeat (first | (with_reducible refine Below.drewN ?_) | (with_reducible refine Below.drew ?_) | ((with_reducible refine Below.alloc ?_ ?_ _); rotate_left; (first | omega | (simp <;> omega))) | ((with_reducible refine Below.setCell ?_ ?_ _); rotate_left; (first | omega | (simp <;> omega))) | (with_reducible exact Below.refl _ _) | (with_reducible assumption)))) (hb1.mono (by first | omega | (simp <;> omega)))
  go_wp2
  go_ret
  exact ⟨rfl, by (repeat (first | (with_reducible refine Below.drewN ?_) | (with_reducible refine Below.drew ?_) | ((with_reducible refine Below.alloc ?_ ?_ _); rotate_left; (first | omega | (simp <;> omega))) | ((with_reducible refine Below.setCell ?_ ?_ _); rotate_left; (first | omega | (simp <;> omega))) | (with_reducible exact Below.refl _ _) | (with_reducible assumption)))⟩
theorem k_ValidPipe (a1 : Option Addr) (n1 c1 : Nat) (rs1 : List Rg) (a2 : Option Addr) (n2 c2 : Nat) (rs2 : List Rg) (a3 : Option Addr) (n3 c3 : Nat) (xs3 : List Nat) (k : Int) (f0 f1 f2 f3 f4 : Nat) (op : Bool) (x1 x2 x3 : Nat) (w : World) (h1 : RS w a1 n1 c1 rs1) (h2 : RS w a2 n2 c2 rs2) (h3 : FS w a3 n3 c3 xs3) :
    Calls Try.prog 3 #[.agg #[.slice a1 n1 c1, .slice a2 n2 c2, .slice a3 n3 c3, .int .i64 k, .float .f32 f0, .float .f32 f1, .float .f32 f2, .float .f32 f3, .float .f32 f4, .bool op, .float .f32 x1, .float .f32 x2, .float .f32 x3]] w (RetV (.bool true) w) :=
  l_ValidPipe a1 n1 c1 rs1 a2 n2 c2 rs2 a3 n3 c3 xs3 k f0 f1 f2 f3 f4 op x1 x2 x3 (pipeB n1 rs1 n2 rs2 n3 xs3 ⟨k, f0, f1, f2, f3, f4, x1, x2, x3⟩) w h1 h2 h3
    (fun W d1 d2 d3 e1 e2 e3 ss1 ss2 r1 r2 r3 s1 s2 => pipeB_same s1 s2 ▸ c_sValidPipe d1 n1 e1 ss1 d2 n2 e2 ss2 d3 n3 e3 xs3 ⟨k, f0, f1, f2, f3, f4, x1, x2, x3⟩ op W r1 r2 r3)
    (fun W d1 d2 d3 e1 e2 e3 ss1 ss2 r1 r2 r3 s1 s2 => pipeB_same s1 s2 ▸ c_ValidPipe d1 n1 e1 ss1 d2 n2 e2 ss2 d3 n3 e3 xs3 ⟨k, f0, f1, f2, f3, f4, x1, x2, x3⟩ op W r1 r2 r3)
end Go.Proofs.Ytfhegjjgfaeinaa
