
/-
The pressure at a place of a pipe.
-/
import Derived.Test.YtfhegjjgfaeinaaPr
import Derived.Test.YtfhegjjgfaeinaaPn
import Derived.Deep.RegionHeld3
import Derived.Test.YtfhegjjgfaeinaaWPressureAt
namespace Go.Proofs.Ytfhegjjgfaeinaa
open Go Go.RowKit Fl
def pidx (r : Rg) (q : Nat) : Nat := ((r.i + r.n - 1 - q) % (r.n : Int)).toNat
def lidx (r : Rg) (N q : Nat) : Nat := ((r.i + q) % (N : Int)).toNat
theorem c_lengthR (a : Option Addr) (n c : Nat) (w : World) : Calls Try.prog 135 #[.slice a n c] w (fun e w' => e = .returned (.int .i64 n) ∧ w = w') := by
  go_enter Try.func135, Try.ntmps135
  go_wp2
  go_ret
  exact ⟨rfl, rfl⟩
theorem idx_eq {i : Int} {n q : Nat} (h0 : 0 ≤ i) (_h1 : i < n) (hq : q < n) :
    (i + n - 1 - q).tmod n = (((i + n - 1 - q) % (n : Int)).toNat : Int) ∧ (i - 1 - q + 2 * n).tmod n = (((i + n - 1 - q) % (n : Int)).toNat : Int) ∧ ((i + n - 1 - q) % (n : Int)).toNat < n := by
  have hn : (0 : Int) < n := by omega
  have e1 := Int.emod_nonneg (i + n - 1 - q) (show (n : Int) ≠ 0 by omega)
  have e2 := Int.emod_lt_of_pos (i + n - 1 - q) hn
  refine ⟨?_, ?_, by omega⟩
  · rw [Int.tmod_eq_emod_of_nonneg (by omega)]; omega
  · rw [Int.tmod_eq_emod_of_nonneg (by omega), show i - 1 - (q : Int) + 2 * n = (i + n - 1 - q) + n by omega, Int.add_emod_right]; omega
theorem idx_eq2 {i : Int} {n q : Nat} (h0 : 0 ≤ i) (_h1 : i < n) (_hq : q < n) : (i + q).tmod n = (((i + q) % (n : Int)).toNat : Int) ∧ ((i + q) % (n : Int)).toNat < n := by
  have hn : (0 : Int) < n := by omega
  have e1 := Int.emod_nonneg (i + q) (show (n : Int) ≠ 0 by omega)
  have e2 := Int.emod_lt_of_pos (i + q) hn
  exact ⟨by rw [Int.tmod_eq_emod_of_nonneg (by omega)]; omega, by omega⟩
theorem c_l04Place_no1 (b : Nat) (a1 : Option Addr) (n1 c1 : Nat) (w : World) (e0 : w.cell? ⟨b, 0, none⟩ = some (.slice a1 n1 c1)) (l1 : 0 < n1) (u1 : n1 ≤ 3) (sec plc : Int) (hs : inB sec 0 ((n1 : Int) - 1) = false) : Calls Try.prog 88 #[.pointer (some ⟨b, 0, none⟩), .int .i64 sec, .int .i64 plc] w (RetV (.bool false) w) := by
  have HK : Hid (∀ W, Calls Try.prog 61 #[.int .i64 sec, .int .i64 0, .int .i64 ((n1 : Int) - 1)] W (RetB false W)) := fun W => hs ▸ c_l00In _ _ _ W
  clear hs
  go_enter Try.func88, Try.ntmps88
  go_wp2_with fail
  refine (HK.out _).mono ?_
  rintro e w' ⟨rfl, d1, rfl⟩
  go_wp2
  go_ret
  exact ⟨rfl, by (repeat (first | (with_reducible refine Below.drewN ?_) | (with_reducible refine Below.drew ?_) | ((with_reducible refine Below.alloc ?_ ?_ _); rotate_left; (first | omega | (simp <;> omega))) | ((with_reducible refine Below.setCell ?_ ?_ _); rotate_left; (first | omega | (simp <;> omega))) | (with_reducible exact Below.refl _ _) | (with_reducible assumption)))⟩
theorem c_l04Place (b : Nat) (a1 : Option Addr) (n1 c1 : Nat) (rs1 : List Rg) (w : World) (e0 : w.cell? ⟨b, 0, none⟩ = some (.slice a1 n1 c1)) (h1 : RS w a1 n1 c1 rs1) (l1 : 0 < n1) (u1 : n1 ≤ 3) (s : Nat) (plc : Int) (hs : s < n1) (v : Bool) (hv : inB plc 0 (((rat rs1 s).n : Int) - 1) = v) : Calls Try.prog 88 #[.pointer (some ⟨b, 0, none⟩), .int .i64 s, .int .i64 plc] w (RetV (.bool v) w) := by
  have HK : Hid (∀ W, Calls Try.prog 61 #[.int .i64 s, .int .i64 0, .int .i64 ((n1 : Int) - 1)] W (RetB true W)) := fun W => by
    have e : inB s 0 ((n1 : Int) - 1) = true := by unfold inB; rw [decide_eq_true (show (0 : Int) ≤ s by omega), decide_eq_true (show (s : Int) ≤ (n1 : Int) - 1 by omega)]; rfl
    exact e ▸ c_l00In _ _ _ W
  have HP : Hid (∀ W, Calls Try.prog 61 #[.int .i64 plc, .int .i64 0, .int .i64 (((rat rs1 s).n : Int) - 1)] W (RetB v W)) := fun W => hv ▸ c_l00In _ _ _ W
  obtain ⟨b1, o1, rfl, hbl1, hcell1⟩ := h1.at_ l1
  have x0 := (hcell1 s hs).c0
  have hbig := Nat.le_trans (hcell1 s hs).fs.cap (hcell1 s hs).fs.big
  clear h1 hcell1 hv
  go_enter Try.func88, Try.ntmps88
  go_wp2_with fail
  refine (HK.out _).mono ?_
  rintro e w' ⟨rfl, d1, rfl⟩
  go_wp2_with fail
  refine (HP.out _).mono ?_
  rintro e w' ⟨rfl, d2, rfl⟩
  go_wp2
  go_ret
  exact ⟨by cases v <;> rfl, by (repeat (first | (with_reducible refine Below.drewN ?_) | (with_reducible refine Below.drew ?_) | ((with_reducible refine Below.alloc ?_ ?_ _); rotate_left; (first | omega | (simp <;> omega))) | ((with_reducible refine Below.setCell ?_ ?_ _); rotate_left; (first | omega | (simp <;> omega))) | (with_reducible exact Below.refl _ _) | (with_reducible assumption)))⟩
set_option maxHeartbeats 2000000 in
theorem c_l04Index (b : Nat) (a1 a2 : Option Addr) (n c1 c2 : Nat) (rs1 rs2 : List Rg) (w : World) (e0 : w.cell? ⟨b, 0, none⟩ = some (.slice a1 n c1)) (e1 : w.cell? ⟨b, 1, none⟩ = some (.slice a2 n c2)) (h1 : RS w a1 n c1 rs1) (h2 : RS w a2 n c2 rs2) (s q : Nat) (hs : s < n) (hq : q < (rat rs1 s).n) (hl : (rat rs2 s).n = (rat rs1 s).n) (k1 : (rat rs1 s).ok = true) (k2 : (rat rs2 s).ok = true) :
    Calls Try.prog 89 #[.pointer (some ⟨b, 0, none⟩), .int .i64 s, .int .i64 q] w (RetV (.tuple #[.int .i64 (pidx (rat rs1 s) q : Nat), .int .i64 (lidx (rat rs2 s) (rat rs1 s).n q : Nat)]) w) := by
  obtain ⟨b1, o1, rfl, hbl1, hcell1⟩ := h1.at_ (by omega)
  obtain ⟨b2, o2, rfl, hbl2, hcell2⟩ := h2.at_ (by omega)
  have x0 := (hcell1 s hs).c0
  have x1 := (hcell1 s hs).c1
  have y1 := (hcell2 s hs).c1
  have i1 := ok_n k1
  have i2 := ok_n k2
  rw [hl] at i2
  have I1 := (idx_eq i1.2.2.1 i1.2.2.2 hq).1
  have I2 := (idx_eq2 i2.2.2.1 i2.2.2.2 hq).1
  rw [show (((((rat rs1 s).i + (rat rs1 s).n - 1 - q) % ((rat rs1 s).n : Int)).toNat : Nat) : Int) = (pidx (rat rs1 s) q : Nat) from rfl] at I1
  rw [show ((((rat rs2 s).i + q) % ((rat rs1 s).n : Int)).toNat : Int) = (lidx (rat rs2 s) (rat rs1 s).n q : Nat) from rfl] at I2
  generalize pidx (rat rs1 s) q = P at *
  generalize lidx (rat rs2 s) (rat rs1 s).n q = L at *
  generalize (rat rs1 s).n = N at *
  generalize (rat rs1 s).i = A at *
  generalize (rat rs2 s).i = C at *
  generalize (rat rs1 s).a = aa at *
  generalize (rat rs1 s).c = cc at *
  have hN0 : ¬ (N = 0) := by omega
  have w1 : IntKind.i64.wrap (A + N) = A + N := IntWalk.i64_in _ (by omega)
  have w2 : IntKind.i64.wrap (A + N - 1) = A + N - 1 := IntWalk.i64_in _ (by omega)
  have w3 : IntKind.i64.wrap (A + N - 1 - q) = A + N - 1 - q := IntWalk.i64_in _ (by omega)
  have w4 : IntKind.i64.wrap (C + q) = C + q := IntWalk.i64_in _ (by omega)
  clear h1 h2 hcell1 hcell2 k1 k2 hl
  go_enter Try.func89, Try.ntmps89
  go_wp2
  refine wp_region_sets' (by kernel_rfl) (by kernel_rfl) ?_
  apply Exists.intro
  iterate 21 (apply lx_want; kernel_rfl; (intro n; go_simp; exact ⟨OneV.mk _, _, (by first | rfl | exact congrArg _ (Nat.add_assoc _ _ _))⟩); rintro _ rfl)
  (refine lx_nil (Vl := []) ?_; intro n; simp only [Act.put, List.setIfInBounds_toArray, List.set_cons_succ, List.set_cons_zero])
  go_wp2
  refine bodyPost_ret (v := ?v) (by simp [results, Try.results89, go_sem, *] <;> rfl) rfl ?_
  exact ⟨rfl, by (repeat (first | (with_reducible refine Below.drewN ?_) | (with_reducible refine Below.drew ?_) | ((with_reducible refine Below.alloc ?_ ?_ _); rotate_left; (first | omega | (simp <;> omega))) | ((with_reducible refine Below.setCell ?_ ?_ _); rotate_left; (first | omega | (simp <;> omega))) | (with_reducible exact Below.refl _ _) | (with_reducible assumption)))⟩
def prF (r l : Rg) (q : Nat) : Nat := fop .add .f32 (nth r.xs (pidx r q)) (nth l.xs (lidx l r.n q))
theorem pidx_lt {r : Rg} {q : Nat} (h : r.ok = true) (hq : q < r.n) : pidx r q < r.n := by
  have i := ok_n h
  exact (idx_eq i.2.2.1 i.2.2.2 hq).2.2
theorem lidx_lt {r : Rg} {q : Nat} (h : r.ok = true) (hq : q < r.n) : lidx r r.n q < r.n := by
  have i := ok_n h
  exact (idx_eq2 i.2.2.1 i.2.2.2 hq).2
set_option maxRecDepth 100000 in
set_option maxHeartbeats 4000000 in
theorem c_sPressureAt_no (a1 : Option Addr) (n1 c1 : Nat) (rs1 : List Rg) (a2 : Option Addr) (n2 c2 : Nat) (rs2 : List Rg) (a3 : Option Addr) (n3 c3 : Nat) (xs3 : List Nat) (p : Pn) (op : Bool) (w : World) (h1 : RS w a1 n1 c1 rs1) (h2 : RS w a2 n2 c2 rs2) (h3 : FS w a3 n3 c3 xs3) (hv : pipeB n1 rs1 n2 rs2 n3 xs3 p = false) (sec plc : Int) :
    Calls Try.prog 29 #[.agg #[.slice a1 n1 c1, .slice a2 n2 c2, .slice a3 n3 c3, .int .i64 p.k, .float .f32 p.f0, .float .f32 p.f1, .float .f32 p.f2, .float .f32 p.f3, .float .f32 p.f4, .bool op, .float .f32 p.x1, .float .f32 p.x2, .float .f32 p.x3], .int .i64 sec, .int .i64 plc] w (RetFC 0 1 w) := by
  have H1 := Lib.hid h1
  have H2 := Lib.hid h2
  have H3 := Lib.hid h3
  have HV : Hid (∀ W b, Below w.heap.size w W → PBox W b a1 n1 c1 a2 n2 c2 a3 n3 c3 p → b < W.heap.size → Calls Try.prog 45 #[.pointer (some ⟨b, 0, none⟩)] W (RetV (.bool false) W)) := fun W b hW hp hb => hv ▸ c_l04Ok b a1 n1 c1 rs1 a2 n2 c2 rs2 a3 n3 c3 xs3 p W hp hb (H1.out.below hW (Nat.le_refl _)) (H2.out.below hW (Nat.le_refl _)) (H3.out.below hW (Nat.le_refl _))
  clear h1 h2 h3 hv
  go_enter Try.func29, Try.ntmps29
  go_wp2_with fail
  refine (HV.out _ _ (by (repeat (first | (with_reducible refine Below.drewN ?_) | (with_reducible refine Below.drew ?_) | ((with_reducible refine Below.alloc ?_ ?_ _); rotate_left; (first | omega | (simp <;> omega))) | ((with_reducible refine Below.setCell ?_ ?_ _); rotate_left; (first | omega | (simp <;> omega))) | (with_reducible exact Below.refl _ _) | (with_reducible assumption)))) (PBox.new ..) (by simp)).mono ?_
  rintro e w1 ⟨rfl, hb1⟩
  obtain ⟨hc1, hf1, hz1⟩ := bcell hb1
  try simp at hz1
  have zb1 : w.heap.size ≤ w1.heap.size := by omega
  try (have z1_0 : w.heap.size < w1.heap.size := by omega)
  try (have z1_1 : w.heap.size + 1 < w1.heap.size := by omega)
  try (have z1_2 : w.heap.size + 1 + 1 < w1.heap.size := by omega)
  try (have z1_3 : w.heap.size + 1 + 1 + 1 < w1.heap.size := by omega)
  have b1 : Below w.heap.size w w1 := Below.trans (by (repeat (first | (with_reducible refine Below.drewN ?_) | (with_reducible refine Below.drew ?_) | ((with_reducible refine Below.alloc ?_ ?_ _); rotate_left; (first | omega | (simp <;> omega))) | ((with_reducible refine Below.setCell ?_ ?_ _); rotate_left; (first | omega | (simp <;> omega))) | (with_reducible exact Below.refl _ _) | (with_reducible assumption)))) (hb1.mono (by first | omega | (simp <;> omega)))
  go_wp2
  go_ret2
  exact ⟨0, rfl, by (repeat (first | (with_reducible refine Below.drewN ?_) | (with_reducible refine Below.drew ?_) | ((with_reducible refine Below.alloc ?_ ?_ _); rotate_left; (first | omega | (simp <;> omega))) | ((with_reducible refine Below.setCell ?_ ?_ _); rotate_left; (first | omega | (simp <;> omega))) | (with_reducible exact Below.refl _ _) | (with_reducible assumption)))⟩
set_option maxRecDepth 100000 in
set_option maxHeartbeats 4000000 in
theorem c_PressureAt_no (a1 : Option Addr) (n1 c1 : Nat) (rs1 : List Rg) (a2 : Option Addr) (n2 c2 : Nat) (rs2 : List Rg) (a3 : Option Addr) (n3 c3 : Nat) (xs3 : List Nat) (p : Pn) (op : Bool) (w : World) (h1 : RS w a1 n1 c1 rs1) (h2 : RS w a2 n2 c2 rs2) (h3 : FS w a3 n3 c3 xs3) (hv : pipeB n1 rs1 n2 rs2 n3 xs3 p = false) (sec plc : Int) :
    Calls Try.prog 30 #[.agg #[.slice a1 n1 c1, .slice a2 n2 c2, .slice a3 n3 c3, .int .i64 p.k, .float .f32 p.f0, .float .f32 p.f1, .float .f32 p.f2, .float .f32 p.f3, .float .f32 p.f4, .bool op, .float .f32 p.x1, .float .f32 p.x2, .float .f32 p.x3], .int .i64 sec, .int .i64 plc] w (RetFC 0 1 w) := by
  have H1 := Lib.hid h1
  have H2 := Lib.hid h2
  have H3 := Lib.hid h3
  have HV : Hid (∀ W, Below w.heap.size w W → Calls Try.prog 16 #[.agg #[.slice a1 n1 c1, .slice a2 n2 c2, .slice a3 n3 c3, .int .i64 p.k, .float .f32 p.f0, .float .f32 p.f1, .float .f32 p.f2, .float .f32 p.f3, .float .f32 p.f4, .bool op, .float .f32 p.x1, .float .f32 p.x2, .float .f32 p.x3]] W (RetV (.bool false) W)) := fun W hW => hv ▸ c_ValidPipe a1 n1 c1 rs1 a2 n2 c2 rs2 a3 n3 c3 xs3 p op W (H1.out.below hW (Nat.le_refl _)) (H2.out.below hW (Nat.le_refl _)) (H3.out.below hW (Nat.le_refl _))
  clear h1 h2 h3 hv
  go_enter Try.func30, Try.ntmps30
  go_wp2_with fail
  refine (HV.out _ (by (repeat (first | (with_reducible refine Below.drewN ?_) | (with_reducible refine Below.drew ?_) | ((with_reducible refine Below.alloc ?_ ?_ _); rotate_left; (first | omega | (simp <;> omega))) | ((with_reducible refine Below.setCell ?_ ?_ _); rotate_left; (first | omega | (simp <;> omega))) | (with_reducible exact Below.refl _ _) | (with_reducible assumption))))).mono ?_
  rintro e w1 ⟨rfl, hb1⟩
  obtain ⟨hc1, hf1, hz1⟩ := bcell hb1
  try simp at hz1
  have zb1 : w.heap.size ≤ w1.heap.size := by omega
  try (have z1_0 : w.heap.size < w1.heap.size := by omega)
  try (have z1_1 : w.heap.size + 1 < w1.heap.size := by omega)
  try (have z1_2 : w.heap.size + 1 + 1 < w1.heap.size := by omega)
  try (have z1_3 : w.heap.size + 1 + 1 + 1 < w1.heap.size := by omega)
  have b1 : Below w.heap.size w w1 := Below.trans (by (repeat (first | (with_reducible refine Below.drewN ?_) | (with_reducible refine Below.drew ?_) | ((with_reducible refine Below.alloc ?_ ?_ _); rotate_left; (first | omega | (simp <;> omega))) | ((with_reducible refine Below.setCell ?_ ?_ _); rotate_left; (first | omega | (simp <;> omega))) | (with_reducible exact Below.refl _ _) | (with_reducible assumption)))) (hb1.mono (by first | omega | (simp <;> omega)))
  go_wp2
  go_ret2
  exact ⟨0, rfl, by (repeat (first | (with_reducible refine Below.drewN ?_) | (with_reducible refine Below.drew ?_) | ((with_reducible refine Below.alloc ?_ ?_ _); rotate_left; (first | omega | (simp <;> omega))) | ((with_reducible refine Below.setCell ?_ ?_ _); rotate_left; (first | omega | (simp <;> omega))) | (with_reducible exact Below.refl _ _) | (with_reducible assumption)))⟩
set_option maxRecDepth 100000 in
set_option maxHeartbeats 4000000 in
theorem c_sPressureAt_r1 (a1 : Option Addr) (n1 c1 : Nat) (rs1 : List Rg) (a2 : Option Addr) (n2 c2 : Nat) (rs2 : List Rg) (a3 : Option Addr) (n3 c3 : Nat) (xs3 : List Nat) (p : Pn) (op : Bool) (w : World) (h1 : RS w a1 n1 c1 rs1) (h2 : RS w a2 n2 c2 rs2) (h3 : FS w a3 n3 c3 xs3) (hv : pipeB n1 rs1 n2 rs2 n3 xs3 p = true) (sec plc : Int) (hs : inB sec 0 ((n1 : Int) - 1) = false) :
    Calls Try.prog 29 #[.agg #[.slice a1 n1 c1, .slice a2 n2 c2, .slice a3 n3 c3, .int .i64 p.k, .float .f32 p.f0, .float .f32 p.f1, .float .f32 p.f2, .float .f32 p.f3, .float .f32 p.f4, .bool op, .float .f32 p.x1, .float .f32 p.x2, .float .f32 p.x3], .int .i64 sec, .int .i64 plc] w (RetFC 0 2 w) := by
  have H1 := Lib.hid h1
  have H2 := Lib.hid h2
  have H3 := Lib.hid h3
  have HV : Hid (∀ W b, Below w.heap.size w W → PBox W b a1 n1 c1 a2 n2 c2 a3 n3 c3 p → b < W.heap.size → Calls Try.prog 45 #[.pointer (some ⟨b, 0, none⟩)] W (RetV (.bool true) W)) := fun W b hW hp hb => hv ▸ c_l04Ok b a1 n1 c1 rs1 a2 n2 c2 rs2 a3 n3 c3 xs3 p W hp hb (H1.out.below hW (Nat.le_refl _)) (H2.out.below hW (Nat.le_refl _)) (H3.out.below hW (Nat.le_refl _))
  have HO := Lib.hid (pipeB_yes hv)
  have q1 := HO.out.lo
  have q2 := HO.out.hi
  obtain rfl : n2 = n1 := HO.out.eq
  have HS := Lib.hid hs
  clear h1 h2 h3 hv hs
  go_enter Try.func29, Try.ntmps29
  go_wp2_with fail
  refine (HV.out _ _ (by (repeat (first | (with_reducible refine Below.drewN ?_) | (with_reducible refine Below.drew ?_) | ((with_reducible refine Below.alloc ?_ ?_ _); rotate_left; (first | omega | (simp <;> omega))) | ((with_reducible refine Below.setCell ?_ ?_ _); rotate_left; (first | omega | (simp <;> omega))) | (with_reducible exact Below.refl _ _) | (with_reducible assumption)))) (PBox.new ..) (by simp)).mono ?_
  rintro e w1 ⟨rfl, hb1⟩
  have PB := Lib.hid (PBox.below (PBox.new w a1 n2 c1 a2 n2 c2 a3 n3 c3 p op _) hb1 (by simp))
  obtain ⟨hc1, hf1, hz1⟩ := bcell hb1
  try simp at hz1
  have zb1 : w.heap.size ≤ w1.heap.size := by omega
  try (have z1_0 : w.heap.size < w1.heap.size := by omega)
  try (have z1_1 : w.heap.size + 1 < w1.heap.size := by omega)
  try (have z1_2 : w.heap.size + 1 + 1 < w1.heap.size := by omega)
  try (have z1_3 : w.heap.size + 1 + 1 + 1 < w1.heap.size := by omega)
  have b1 : Below w.heap.size w w1 := Below.trans (by (repeat (first | (with_reducible refine Below.drewN ?_) | (with_reducible refine Below.drew ?_) | ((with_reducible refine Below.alloc ?_ ?_ _); rotate_left; (first | omega | (simp <;> omega))) | ((with_reducible refine Below.setCell ?_ ?_ _); rotate_left; (first | omega | (simp <;> omega))) | (with_reducible exact Below.refl _ _) | (with_reducible assumption)))) (hb1.mono (by first | omega | (simp <;> omega)))
  go_wp2_with fail
  refine (c_l04Place_no1 _ a1 n2 c1 _ PB.out.e0 q1 q2 sec plc HS.out).mono ?_
  rintro e w2 ⟨rfl, hb2⟩
  have b2 := b1.trans (hb2.mono b1.size)
  go_wp2
  go_ret2
  exact ⟨0, rfl, b2⟩
set_option maxRecDepth 100000 in
set_option maxHeartbeats 4000000 in
theorem c_sPressureAt_r2 (a1 : Option Addr) (n1 c1 : Nat) (rs1 : List Rg) (a2 : Option Addr) (n2 c2 : Nat) (rs2 : List Rg) (a3 : Option Addr) (n3 c3 : Nat) (xs3 : List Nat) (p : Pn) (op : Bool) (w : World) (h1 : RS w a1 n1 c1 rs1) (h2 : RS w a2 n2 c2 rs2) (h3 : FS w a3 n3 c3 xs3) (hv : pipeB n1 rs1 n2 rs2 n3 xs3 p = true) (s : Nat) (plc : Int) (hs : s < n1) (hq : inB plc 0 (((rat rs1 s).n : Int) - 1) = false) :
    Calls Try.prog 29 #[.agg #[.slice a1 n1 c1, .slice a2 n2 c2, .slice a3 n3 c3, .int .i64 p.k, .float .f32 p.f0, .float .f32 p.f1, .float .f32 p.f2, .float .f32 p.f3, .float .f32 p.f4, .bool op, .float .f32 p.x1, .float .f32 p.x2, .float .f32 p.x3], .int .i64 s, .int .i64 plc] w (RetFC 0 2 w) := by
  have H1 := Lib.hid h1
  have H2 := Lib.hid h2
  have H3 := Lib.hid h3
  have HV : Hid (∀ W b, Below w.heap.size w W → PBox W b a1 n1 c1 a2 n2 c2 a3 n3 c3 p → b < W.heap.size → Calls Try.prog 45 #[.pointer (some ⟨b, 0, none⟩)] W (RetV (.bool true) W)) := fun W b hW hp hb => hv ▸ c_l04Ok b a1 n1 c1 rs1 a2 n2 c2 rs2 a3 n3 c3 xs3 p W hp hb (H1.out.below hW (Nat.le_refl _)) (H2.out.below hW (Nat.le_refl _)) (H3.out.below hW (Nat.le_refl _))
  have HO := Lib.hid (pipeB_yes hv)
  have q1 := HO.out.lo
  have q2 := HO.out.hi
  obtain rfl : n2 = n1 := HO.out.eq
  have HQ := Lib.hid hq
  clear h1 h2 h3 hv hq
  go_enter Try.func29, Try.ntmps29
  go_wp2_with fail
  refine (HV.out _ _ (by (repeat (first | (with_reducible refine Below.drewN ?_) | (with_reducible refine Below.drew ?_) | ((with_reducible refine Below.alloc ?_ ?_ _); rotate_left; (first | omega | (simp <;> omega))) | ((with_reducible refine Below.setCell ?_ ?_ _); rotate_left; (first | omega | (simp <;> omega))) | (with_reducible exact Below.refl _ _) | (with_reducible assumption)))) (PBox.new ..) (by simp)).mono ?_
  rintro e w1 ⟨rfl, hb1⟩
  have PB := Lib.hid (PBox.below (PBox.new w a1 n2 c1 a2 n2 c2 a3 n3 c3 p op _) hb1 (by simp))
  obtain ⟨hc1, hf1, hz1⟩ := bcell hb1
  try simp at hz1
  have zb1 : w.heap.size ≤ w1.heap.size := by omega
  try (have z1_0 : w.heap.size < w1.heap.size := by omega)
  try (have z1_1 : w.heap.size + 1 < w1.heap.size := by omega)
  try (have z1_2 : w.heap.size + 1 + 1 < w1.heap.size := by omega)
  try (have z1_3 : w.heap.size + 1 + 1 + 1 < w1.heap.size := by omega)
  have b1 : Below w.heap.size w w1 := Below.trans (by (repeat (first | (with_reducible refine Below.drewN ?_) | (with_reducible refine Below.drew ?_) | ((with_reducible refine Below.alloc ?_ ?_ _); rotate_left; (first | omega | (simp <;> omega))) | ((with_reducible refine Below.setCell ?_ ?_ _); rotate_left; (first | omega | (simp <;> omega))) | (with_reducible exact Below.refl _ _) | (with_reducible assumption)))) (hb1.mono (by first | omega | (simp <;> omega)))
  go_wp2_with fail
  refine (c_l04Place _ a1 n2 c1 rs1 _ PB.out.e0 (RS.below (B := w.heap.size) H1.out b1 (Nat.le_refl _)) q1 q2 s plc hs false HQ.out).mono ?_
  rintro e w2 ⟨rfl, hb2⟩
  have b2 := b1.trans (hb2.mono b1.size)
  go_wp2
  go_ret2
  exact ⟨0, rfl, b2⟩
set_option maxRecDepth 100000 in
set_option maxHeartbeats 4000000 in
theorem c_sPressureAt_ok (a1 : Option Addr) (n1 c1 : Nat) (rs1 : List Rg) (a2 : Option Addr) (n2 c2 : Nat) (rs2 : List Rg) (a3 : Option Addr) (n3 c3 : Nat) (xs3 : List Nat) (p : Pn) (op : Bool) (w : World) (h1 : RS w a1 n1 c1 rs1) (h2 : RS w a2 n2 c2 rs2) (h3 : FS w a3 n3 c3 xs3) (hv : pipeB n1 rs1 n2 rs2 n3 xs3 p = true) (s q : Nat) (hs : s < n1) (hq : q < (rat rs1 s).n) :
    Calls Try.prog 29 #[.agg #[.slice a1 n1 c1, .slice a2 n2 c2, .slice a3 n3 c3, .int .i64 p.k, .float .f32 p.f0, .float .f32 p.f1, .float .f32 p.f2, .float .f32 p.f3, .float .f32 p.f4, .bool op, .float .f32 p.x1, .float .f32 p.x2, .float .f32 p.x3], .int .i64 s, .int .i64 q] w (RetFC (prF (rat rs1 s) (rat rs2 s) q) 0 w) := by
  have H1 := Lib.hid h1
  have H2 := Lib.hid h2
  have H3 := Lib.hid h3
  have HV : Hid (∀ W b, Below w.heap.size w W → PBox W b a1 n1 c1 a2 n2 c2 a3 n3 c3 p → b < W.heap.size → Calls Try.prog 45 #[.pointer (some ⟨b, 0, none⟩)] W (RetV (.bool true) W)) := fun W b hW hp hb => hv ▸ c_l04Ok b a1 n1 c1 rs1 a2 n2 c2 rs2 a3 n3 c3 xs3 p W hp hb (H1.out.below hW (Nat.le_refl _)) (H2.out.below hW (Nat.le_refl _)) (H3.out.below hW (Nat.le_refl _))
  have HO := Lib.hid (pipeB_yes hv)
  have q1 := HO.out.lo
  have q2 := HO.out.hi
  obtain rfl : n2 = n1 := HO.out.eq
  have HQ : Hid (inB q 0 (((rat rs1 s).n : Int) - 1) = true) := by show _ = _; unfold inB; rw [decide_eq_true (show (0 : Int) ≤ q by omega), decide_eq_true (show (q : Int) ≤ ((rat rs1 s).n : Int) - 1 by omega)]; rfl
  clear h3 hv
  obtain ⟨d1, o1, rfl, hbl1, hcell1⟩ := h1.at_ q1
  obtain ⟨d2, o2, rfl, hbl2, hcell2⟩ := h2.at_ q1
  have kr := HO.out.r1 s hs
  have kl := HO.out.r2 s hs
  have hl := HO.out.len s hs
  have r1 := hcell1 s hs
  have r2 := hcell2 s hs
  have pl := Lib.hid (pidx_lt kr hq)
  have ll : Hid (lidx (rat rs2 s) (rat rs1 s).n q < (rat rs1 s).n) := by have := lidx_lt kl (show q < (rat rs2 s).n by omega); rw [← hl] at this; exact this
  obtain ⟨d3, o3, ha3, hbl3, hcell3⟩ := r1.fs.at_ (by omega)
  obtain ⟨d4, o4, ha4, hbl4, hcell4⟩ := r2.fs.at_ (by omega)
  have v3 := Lib.hid (hcell3 _ pl.out)
  have v4 := Lib.hid (hcell4 _ (show lidx (rat rs2 s) (rat rs1 s).n q < (rat rs2 s).n by have := ll.out; omega))
  have x1 := r1.c0
  have x2 := r2.c0
  rw [ha3] at x1
  rw [ha4, ← hl] at x2
  have X1 := Lib.hid x1
  have X2 := Lib.hid x2
  have hN := (ok_n kr).2.1
  clear hcell1 hcell2 r1 r2 hcell3 hcell4 ha3 ha4 x1 x2
  have KR := Lib.hid kr
  have KL := Lib.hid kl
  have HL := Lib.hid hl
  clear h1 h2 kr kl hl
  go_enter Try.func29, Try.ntmps29
  go_wp2_with fail
  refine (HV.out _ _ (by (repeat (first | (with_reducible refine Below.drewN ?_) | (with_reducible refine Below.drew ?_) | ((with_reducible refine Below.alloc ?_ ?_ _); rotate_left; (first | omega | (simp <;> omega))) | ((with_reducible refine Below.setCell ?_ ?_ _); rotate_left; (first | omega | (simp <;> omega))) | (with_reducible exact Below.refl _ _) | (with_reducible assumption)))) (PBox.new ..) (by simp)).mono ?_
  rintro e w1 ⟨rfl, hb1⟩
  have PB := Lib.hid (PBox.below (PBox.new w (some ⟨d1, o1, none⟩) n2 c1 (some ⟨d2, o2, none⟩) n2 c2 a3 n3 c3 p op _) hb1 (by simp))
  have zb : w.heap.size < w1.heap.size := by have := hb1.size; simp at this; omega
  obtain ⟨hc1, hf1, hz1⟩ := bcell hb1
  try simp at hz1
  have zb1 : w.heap.size ≤ w1.heap.size := by omega
  try (have z1_0 : w.heap.size < w1.heap.size := by omega)
  try (have z1_1 : w.heap.size + 1 < w1.heap.size := by omega)
  try (have z1_2 : w.heap.size + 1 + 1 < w1.heap.size := by omega)
  try (have z1_3 : w.heap.size + 1 + 1 + 1 < w1.heap.size := by omega)
  have b1 : Below w.heap.size w w1 := Below.trans (by (repeat (first | (with_reducible refine Below.drewN ?_) | (with_reducible refine Below.drew ?_) | ((with_reducible refine Below.alloc ?_ ?_ _); rotate_left; (first | omega | (simp <;> omega))) | ((with_reducible refine Below.setCell ?_ ?_ _); rotate_left; (first | omega | (simp <;> omega))) | (with_reducible exact Below.refl _ _) | (with_reducible assumption)))) (hb1.mono (by first | omega | (simp <;> omega)))
  clear hc1 hf1
  go_wp2_with fail
  refine (c_l04Place _ _ n2 c1 rs1 _ PB.out.e0 (RS.below (B := w.heap.size) H1.out b1 (Nat.le_refl _)) q1 q2 s q hs true HQ.out).mono ?_
  rintro e w2 ⟨rfl, hb2⟩
  have b2 := b1.trans (hb2.mono b1.size)
  have PB2 := Lib.hid (PB.out.below hb2 zb)
  have zb2 : w.heap.size < w2.heap.size := Nat.lt_of_lt_of_le zb hb2.size
  go_wp2_with fail
  refine (c_l04Index _ _ _ n2 c1 c2 rs1 rs2 _ PB2.out.e0 PB2.out.e1 (RS.below (B := w.heap.size) H1.out b2 (Nat.le_refl _)) (RS.below (B := w.heap.size) H2.out b2 (Nat.le_refl _)) s q hs hq HL.out.symm KR.out KL.out).mono ?_
  rintro e w3 ⟨rfl, hb3⟩
  have b3 := b2.trans (hb3.mono b2.size)
  have e0 := (PB2.out.below hb3 zb2).e0
  have e1 := (PB2.out.below hb3 zb2).e1
  have hc := (bcell b3).1
  have x1 : w3.cell? ⟨d1, o1 + s * 2, none⟩ = _ := (hc _ _ hbl1).trans X1.out
  have x2 : w3.cell? ⟨d2, o2 + s * 2, none⟩ = _ := (hc _ _ hbl2).trans X2.out
  have v1 : w3.cell? ⟨d3, o3 + pidx (rat rs1 s) q, none⟩ = _ := (hc _ _ hbl3).trans v3.out
  have v2 : w3.cell? ⟨d4, o4 + lidx (rat rs2 s) (rat rs1 s).n q, none⟩ = _ := (hc _ _ hbl4).trans v4.out
  have pl := pl.out
  have ll := ll.out
  clear hc
  have HP : Hid (prF (rat rs1 s) (rat rs2 s) q = fop .add .f32 (nth (rat rs1 s).xs (pidx (rat rs1 s) q)) (nth (rat rs2 s).xs (lidx (rat rs2 s) (rat rs1 s).n q))) := rfl
  generalize pidx (rat rs1 s) q = P at *
  generalize lidx (rat rs2 s) (rat rs1 s).n q = L at *
  clear hb1 hb2 hb3
  go_wp2
  refine wp_region_sets' (by kernel_rfl) (by kernel_rfl) ?_
  apply Exists.intro
  iterate 18 (apply lx_want; kernel_rfl; (intro n; go_simp; exact ⟨OneV.mk _, _, (by first | rfl | exact congrArg _ (Nat.add_assoc _ _ _))⟩); rintro _ rfl)
  (apply lx_want; kernel_rfl; (intro n; go_simp; exact ⟨LF.mk _ _ _, _, (by first | rfl | exact congrArg _ (Nat.add_assoc _ _ _))⟩); rintro _ ⟨t, rfl⟩)
  iterate 2 (first | (apply lx_want; kernel_rfl; (intro n; go_simp; exact ⟨LF.mk _ _ _, _, (by first | rfl | exact congrArg _ (Nat.add_assoc _ _ _))⟩); rintro _ ⟨t, rfl⟩) | (apply lx_want; kernel_rfl; (intro n; go_simp; exact ⟨OneV.mk _, _, (by first | rfl | exact congrArg _ (Nat.add_assoc _ _ _))⟩); rintro _ rfl))
  (refine lx_nil (Vl := []) ?_; intro n; simp only [Act.put, List.setIfInBounds_toArray, List.set_cons_succ, List.set_cons_zero])
  go_wp2
  go_ret2
  exact ⟨t, by rw [HP.out]; rfl, by (repeat (first | (with_reducible refine Below.drewN ?_) | (with_reducible refine Below.drew ?_) | ((with_reducible refine Below.alloc ?_ ?_ _); rotate_left; (first | omega | (simp <;> omega))) | ((with_reducible refine Below.setCell ?_ ?_ _); rotate_left; (first | omega | (simp <;> omega))) | (with_reducible exact Below.refl _ _) | (with_reducible assumption)))⟩
theorem c_places_r1 (a1 : Option Addr) (n c1 : Nat) (a2 : Option Addr) (c2 : Nat) (a3 : Option Addr) (n3 c3 : Nat) (p : Pn) (op : Bool) (w : World) (l1 : 0 < n) (u1 : n ≤ 3) (sec plc : Int) (hs : inB sec 0 ((n : Int) - 1) = false) :
    Calls Try.prog 90 #[.agg #[.slice a1 n c1, .slice a2 n c2, .slice a3 n3 c3, .int .i64 p.k, .float .f32 p.f0, .float .f32 p.f1, .float .f32 p.f2, .float .f32 p.f3, .float .f32 p.f4, .bool op, .float .f32 p.x1, .float .f32 p.x2, .float .f32 p.x3], .int .i64 sec, .int .i64 plc] w (RetV (.tuple #[.int .i64 0, .int .i64 0, .bool false]) w) := by
  have HK : Hid (∀ W, Calls Try.prog 49 #[.int .i64 sec, .int .i64 0, .int .i64 ((n : Int) - 1)] W (RetB false W)) := fun W => hs ▸ c_within _ _ _ W
  clear hs
  go_enter Try.func90, Try.ntmps90
  go_wp2_with fail
  refine (c_lengthR _ _ _ _).mono ?_
  rintro e w' ⟨rfl, rfl⟩
  go_wp2_with fail
  refine (HK.out _).mono ?_
  rintro e w' ⟨rfl, d1, rfl⟩
  go_wp2
  refine bodyPost_ret (v := ?v) (by simp [results, Try.results90, go_sem, *] <;> rfl) rfl ?_
  exact ⟨rfl, by (repeat (first | (with_reducible refine Below.drewN ?_) | (with_reducible refine Below.drew ?_) | ((with_reducible refine Below.alloc ?_ ?_ _); rotate_left; (first | omega | (simp <;> omega))) | ((with_reducible refine Below.setCell ?_ ?_ _); rotate_left; (first | omega | (simp <;> omega))) | (with_reducible exact Below.refl _ _) | (with_reducible assumption)))⟩
set_option maxHeartbeats 2000000 in
theorem c_places_r2 (a1 : Option Addr) (n c1 : Nat) (rs1 : List Rg) (a2 : Option Addr) (c2 : Nat) (rs2 : List Rg) (a3 : Option Addr) (n3 c3 : Nat) (p : Pn) (op : Bool) (w : World) (h1 : RS w a1 n c1 rs1) (h2 : RS w a2 n c2 rs2) (l1 : 0 < n) (u1 : n ≤ 3) (s : Nat) (plc : Int) (hs : s < n) (hq : inB plc 0 (((rat rs1 s).n : Int) - 1) = false) (hk : (rat rs1 s).ok = true) :
    Calls Try.prog 90 #[.agg #[.slice a1 n c1, .slice a2 n c2, .slice a3 n3 c3, .int .i64 p.k, .float .f32 p.f0, .float .f32 p.f1, .float .f32 p.f2, .float .f32 p.f3, .float .f32 p.f4, .bool op, .float .f32 p.x1, .float .f32 p.x2, .float .f32 p.x3], .int .i64 s, .int .i64 plc] w (RetV (.tuple #[.int .i64 0, .int .i64 0, .bool false]) w) := by
  have HP : Hid (∀ W, Calls Try.prog 49 #[.int .i64 plc, .int .i64 0, .int .i64 (((rat rs1 s).n : Int) - 1)] W (RetB false W)) := fun W => hq ▸ c_within _ _ _ W
  have HK : Hid (∀ W, Calls Try.prog 49 #[.int .i64 s, .int .i64 0, .int .i64 ((n : Int) - 1)] W (RetB true W)) := fun W => by
    have e : inB s 0 ((n : Int) - 1) = true := by unfold inB; rw [decide_eq_true (show (0 : Int) ≤ s by omega), decide_eq_true (show (s : Int) ≤ (n : Int) - 1 by omega)]; rfl
    exact e ▸ c_within _ _ _ W
  obtain ⟨b1, o1, rfl, hbl1, hcell1⟩ := h1.at_ l1
  obtain ⟨b2, o2, rfl, hbl2, hcell2⟩ := h2.at_ l1
  have X0 := (hcell1 s hs).c0
  have X1 := (hcell1 s hs).c1
  have Y0 := (hcell2 s hs).c0
  have Y1 := (hcell2 s hs).c1
  have hi := ok_n hk
  clear h1 h2 hcell1 hcell2 hq hk
  go_enter Try.func90, Try.ntmps90
  go_wp2_with fail
  refine (c_lengthR _ _ _ _).mono ?_
  rintro e w' ⟨rfl, rfl⟩
  go_wp2_with fail
  refine (HK.out _).mono ?_
  rintro e w' ⟨rfl, d1, rfl⟩
  go_upto_region 3 with fail
  refine wp_named ?_
  intro W0 hW0
  have hB : Below w.heap.size w W0 := by rw [hW0]; (repeat (first | (with_reducible refine Below.drewN ?_) | (with_reducible refine Below.drew ?_) | ((with_reducible refine Below.alloc ?_ ?_ _); rotate_left; (first | omega | (simp <;> omega))) | ((with_reducible refine Below.setCell ?_ ?_ _); rotate_left; (first | omega | (simp <;> omega))) | (with_reducible exact Below.refl _ _) | (with_reducible assumption)))
  have zW : w.heap.size < W0.heap.size := by rw [hW0]; simp
  have E0 : W0.cell? ⟨w.heap.size, 0, none⟩ = some (.slice (some ⟨b1, o1, none⟩) n c1) := by rw [hW0]; simp [go_sem, *]
  have E1 : W0.cell? ⟨w.heap.size, 1, none⟩ = some (.slice (some ⟨b2, o2, none⟩) n c2) := by rw [hW0]; simp [go_sem, *]
  clear hW0
  have hc := (bcell hB).1
  rw [← hc _ _ hbl1] at X0 X1
  rw [← hc _ _ hbl2] at Y0 Y1
  have N0 := World.new_ne _ _ X0
  have N1 := World.new_ne _ _ X1
  have N2 := World.new_ne _ _ Y0
  have N3 := World.new_ne _ _ Y1
  have N4 := World.new_ne _ _ E0
  have N5 := World.new_ne _ _ E1
  clear hc hbl1 hbl2
  go_region_held3 (fun w' => w'.cell? ⟨w.heap.size, 0, none⟩ = some (.slice (some ⟨b1, o1, none⟩) n c1) ∧ w'.cell? ⟨w.heap.size, 1, none⟩ = some (.slice (some ⟨b2, o2, none⟩) n c2) ∧ w'.cell? ⟨b1, o1 + s * 2, none⟩ = some (.slice (rat rs1 s).a (rat rs1 s).n (rat rs1 s).c) ∧ w'.cell? ⟨b1, o1 + s * 2 + 1, none⟩ = some (.int .i64 (rat rs1 s).i) ∧ w'.cell? ⟨b2, o2 + s * 2, none⟩ = some (.slice (rat rs2 s).a (rat rs2 s).n (rat rs2 s).c) ∧ w'.cell? ⟨b2, o2 + s * 2 + 1, none⟩ = some (.int .i64 (rat rs2 s).i)) (go_keep) (fail)
  all_goals
    go_wp2_with fail
    refine (c_length _ _ _ _).mono ?_
    rintro e w' ⟨rfl, rfl⟩
    go_wp2_with fail
    refine (HP.out _).mono ?_
    rintro e w' ⟨rfl, d2, rfl⟩
    go_wp2
    refine bodyPost_ret (v := _) (by simp [results, Try.results90, go_sem, *] <;> rfl) rfl ?_
    exact ⟨rfl, by (repeat (first | (with_reducible refine Below.drewN ?_) | (with_reducible refine Below.drew ?_) | ((with_reducible refine Below.alloc ?_ ?_ _); rotate_left; (first | omega | (simp <;> omega))) | ((with_reducible refine Below.setCell ?_ ?_ _); rotate_left; (first | omega | (simp <;> omega))) | (with_reducible exact Below.refl _ _) | (with_reducible assumption)))⟩
set_option maxHeartbeats 2000000 in
theorem c_places_ok (a1 : Option Addr) (n c1 : Nat) (rs1 : List Rg) (a2 : Option Addr) (c2 : Nat) (rs2 : List Rg) (a3 : Option Addr) (n3 c3 : Nat) (p : Pn) (op : Bool) (w : World) (h1 : RS w a1 n c1 rs1) (h2 : RS w a2 n c2 rs2) (l1 : 0 < n) (u1 : n ≤ 3) (s q : Nat) (hs : s < n) (hq : q < (rat rs1 s).n) (hl : (rat rs2 s).n = (rat rs1 s).n) (k1 : (rat rs1 s).ok = true) (k2 : (rat rs2 s).ok = true) :
    Calls Try.prog 90 #[.agg #[.slice a1 n c1, .slice a2 n c2, .slice a3 n3 c3, .int .i64 p.k, .float .f32 p.f0, .float .f32 p.f1, .float .f32 p.f2, .float .f32 p.f3, .float .f32 p.f4, .bool op, .float .f32 p.x1, .float .f32 p.x2, .float .f32 p.x3], .int .i64 s, .int .i64 q] w (RetV (.tuple #[.int .i64 (pidx (rat rs1 s) q : Nat), .int .i64 (lidx (rat rs2 s) (rat rs1 s).n q : Nat), .bool true]) w) := by
  have HP : Hid (∀ W, Calls Try.prog 49 #[.int .i64 q, .int .i64 0, .int .i64 (((rat rs1 s).n : Int) - 1)] W (RetB true W)) := fun W => by
    have e : inB q 0 (((rat rs1 s).n : Int) - 1) = true := by unfold inB; rw [decide_eq_true (show (0 : Int) ≤ q by omega), decide_eq_true (show (q : Int) ≤ ((rat rs1 s).n : Int) - 1 by omega)]; rfl
    exact e ▸ c_within _ _ _ W
  have HK : Hid (∀ W, Calls Try.prog 49 #[.int .i64 s, .int .i64 0, .int .i64 ((n : Int) - 1)] W (RetB true W)) := fun W => by
    have e : inB s 0 ((n : Int) - 1) = true := by unfold inB; rw [decide_eq_true (show (0 : Int) ≤ s by omega), decide_eq_true (show (s : Int) ≤ (n : Int) - 1 by omega)]; rfl
    exact e ▸ c_within _ _ _ W
  obtain ⟨b1, o1, rfl, hbl1, hcell1⟩ := h1.at_ l1
  obtain ⟨b2, o2, rfl, hbl2, hcell2⟩ := h2.at_ l1
  have X0 := (hcell1 s hs).c0
  have X1 := (hcell1 s hs).c1
  have Y0 := (hcell2 s hs).c0
  have Y1 := (hcell2 s hs).c1
  have i1 := ok_n k1
  have i2 := ok_n k2
  rw [hl] at i2
  have I1 := (idx_eq i1.2.2.1 i1.2.2.2 hq).2.1
  have I2 := (idx_eq2 i2.2.2.1 i2.2.2.2 hq).1
  rw [show (((((rat rs1 s).i + (rat rs1 s).n - 1 - q) % ((rat rs1 s).n : Int)).toNat : Nat) : Int) = (pidx (rat rs1 s) q : Nat) from rfl] at I1
  rw [show ((((rat rs2 s).i + q) % ((rat rs1 s).n : Int)).toNat : Int) = (lidx (rat rs2 s) (rat rs1 s).n q : Nat) from rfl] at I2
  generalize pidx (rat rs1 s) q = P at *
  generalize lidx (rat rs2 s) (rat rs1 s).n q = L at *
  generalize (rat rs1 s).n = N at *
  generalize (rat rs1 s).i = A at *
  generalize (rat rs2 s).i = C at *
  have hN0 : ¬ (N = 0) := by omega
  have w1 : IntKind.i64.wrap (A - 1) = A - 1 := IntWalk.i64_in _ (by omega)
  have w2 : IntKind.i64.wrap (A - 1 - q) = A - 1 - q := IntWalk.i64_in _ (by omega)
  have w3 : IntKind.i64.wrap (2 * (N : Int)) = 2 * (N : Int) := IntWalk.i64_in _ (by omega)
  have w4 : IntKind.i64.wrap (A - 1 - q + 2 * N) = A - 1 - q + 2 * N := IntWalk.i64_in _ (by omega)
  have w5 : IntKind.i64.wrap (C + q) = C + q := IntWalk.i64_in _ (by omega)
  clear h1 h2 hcell1 hcell2 k1 k2 hl
  go_enter Try.func90, Try.ntmps90
  go_wp2_with fail
  refine (c_lengthR _ _ _ _).mono ?_
  rintro e w' ⟨rfl, rfl⟩
  go_wp2_with fail
  refine (HK.out _).mono ?_
  rintro e w' ⟨rfl, d1, rfl⟩
  go_upto_region 3 with fail
  refine wp_named ?_
  intro W0 hW0
  have hB : Below w.heap.size w W0 := by rw [hW0]; (repeat (first | (with_reducible refine Below.drewN ?_) | (with_reducible refine Below.drew ?_) | ((with_reducible refine Below.alloc ?_ ?_ _); rotate_left; (first | omega | (simp <;> omega))) | ((with_reducible refine Below.setCell ?_ ?_ _); rotate_left; (first | omega | (simp <;> omega))) | (with_reducible exact Below.refl _ _) | (with_reducible assumption)))
  have zW : w.heap.size < W0.heap.size := by rw [hW0]; simp
  have E0 : W0.cell? ⟨w.heap.size, 0, none⟩ = some (.slice (some ⟨b1, o1, none⟩) n c1) := by rw [hW0]; simp [go_sem, *]
  have E1 : W0.cell? ⟨w.heap.size, 1, none⟩ = some (.slice (some ⟨b2, o2, none⟩) n c2) := by rw [hW0]; simp [go_sem, *]
  clear hW0
  have hc := (bcell hB).1
  rw [← hc _ _ hbl1] at X0 X1
  rw [← hc _ _ hbl2] at Y0 Y1
  have N0 := World.new_ne _ _ X0
  have N1 := World.new_ne _ _ X1
  have N2 := World.new_ne _ _ Y0
  have N3 := World.new_ne _ _ Y1
  have N4 := World.new_ne _ _ E0
  have N5 := World.new_ne _ _ E1
  clear hc hbl1 hbl2
  go_region_held3 (fun w' => w'.cell? ⟨w.heap.size, 0, none⟩ = some (.slice (some ⟨b1, o1, none⟩) n c1) ∧ w'.cell? ⟨w.heap.size, 1, none⟩ = some (.slice (some ⟨b2, o2, none⟩) n c2) ∧ w'.cell? ⟨b1, o1 + s * 2, none⟩ = some (.slice (rat rs1 s).a N (rat rs1 s).c) ∧ w'.cell? ⟨b1, o1 + s * 2 + 1, none⟩ = some (.int .i64 A) ∧ w'.cell? ⟨b2, o2 + s * 2, none⟩ = some (.slice (rat rs2 s).a (rat rs2 s).n (rat rs2 s).c) ∧ w'.cell? ⟨b2, o2 + s * 2 + 1, none⟩ = some (.int .i64 C)) (go_keep) (fail)
  all_goals
    go_wp2_with fail
    refine (c_length _ _ _ _).mono ?_
    rintro e w' ⟨rfl, rfl⟩
    go_wp2_with fail
    refine (HP.out _).mono ?_
    rintro e w' ⟨rfl, d2, rfl⟩
    go_wp2
    refine wp_region_sets' (by kernel_rfl) (by kernel_rfl) ?_
    apply Exists.intro
    iterate 19 (apply lx_want; kernel_rfl; (intro n; go_simp; exact ⟨OneV.mk _, _, (by first | rfl | exact congrArg _ (Nat.add_assoc _ _ _))⟩); rintro _ rfl)
    (refine lx_nil (Vl := []) ?_; intro n; simp only [Act.put, List.setIfInBounds_toArray, List.set_cons_succ, List.set_cons_zero])
    go_wp2
    refine bodyPost_ret (v := _) (by simp [results, Try.results90, go_sem, *] <;> rfl) rfl ?_
    exact ⟨rfl, by (repeat (first | (with_reducible refine Below.drewN ?_) | (with_reducible refine Below.drew ?_) | ((with_reducible refine Below.alloc ?_ ?_ _); rotate_left; (first | omega | (simp <;> omega))) | ((with_reducible refine Below.setCell ?_ ?_ _); rotate_left; (first | omega | (simp <;> omega))) | (with_reducible exact Below.refl _ _) | (with_reducible assumption)))⟩
set_option maxRecDepth 100000 in
set_option maxHeartbeats 4000000 in
theorem c_PressureAt_r1 (a1 : Option Addr) (n1 c1 : Nat) (rs1 : List Rg) (a2 : Option Addr) (n2 c2 : Nat) (rs2 : List Rg) (a3 : Option Addr) (n3 c3 : Nat) (xs3 : List Nat) (p : Pn) (op : Bool) (w : World) (h1 : RS w a1 n1 c1 rs1) (h2 : RS w a2 n2 c2 rs2) (h3 : FS w a3 n3 c3 xs3) (hv : pipeB n1 rs1 n2 rs2 n3 xs3 p = true) (sec plc : Int) (hs : inB sec 0 ((n1 : Int) - 1) = false) :
    Calls Try.prog 30 #[.agg #[.slice a1 n1 c1, .slice a2 n2 c2, .slice a3 n3 c3, .int .i64 p.k, .float .f32 p.f0, .float .f32 p.f1, .float .f32 p.f2, .float .f32 p.f3, .float .f32 p.f4, .bool op, .float .f32 p.x1, .float .f32 p.x2, .float .f32 p.x3], .int .i64 sec, .int .i64 plc] w (RetFC 0 2 w) := by
  have H1 := Lib.hid h1
  have H2 := Lib.hid h2
  have H3 := Lib.hid h3
  have HV : Hid (∀ W, Below w.heap.size w W → Calls Try.prog 16 #[.agg #[.slice a1 n1 c1, .slice a2 n2 c2, .slice a3 n3 c3, .int .i64 p.k, .float .f32 p.f0, .float .f32 p.f1, .float .f32 p.f2, .float .f32 p.f3, .float .f32 p.f4, .bool op, .float .f32 p.x1, .float .f32 p.x2, .float .f32 p.x3]] W (RetV (.bool true) W)) := fun W hW => hv ▸ c_ValidPipe a1 n1 c1 rs1 a2 n2 c2 rs2 a3 n3 c3 xs3 p op W (H1.out.below hW (Nat.le_refl _)) (H2.out.below hW (Nat.le_refl _)) (H3.out.below hW (Nat.le_refl _))
  have HO := Lib.hid (pipeB_yes hv)
  have q1 := HO.out.lo
  have q2 := HO.out.hi
  obtain rfl : n2 = n1 := HO.out.eq
  have HS := Lib.hid hs
  clear h1 h2 h3 hv hs
  go_enter Try.func30, Try.ntmps30
  go_wp2_with fail
  refine (HV.out _ (by (repeat (first | (with_reducible refine Below.drewN ?_) | (with_reducible refine Below.drew ?_) | ((with_reducible refine Below.alloc ?_ ?_ _); rotate_left; (first | omega | (simp <;> omega))) | ((with_reducible refine Below.setCell ?_ ?_ _); rotate_left; (first | omega | (simp <;> omega))) | (with_reducible exact Below.refl _ _) | (with_reducible assumption))))).mono ?_
  rintro e w1 ⟨rfl, hb1⟩
  obtain ⟨hc1, hf1, hz1⟩ := bcell hb1
  try simp at hz1
  have zb1 : w.heap.size ≤ w1.heap.size := by omega
  try (have z1_0 : w.heap.size < w1.heap.size := by omega)
  try (have z1_1 : w.heap.size + 1 < w1.heap.size := by omega)
  try (have z1_2 : w.heap.size + 1 + 1 < w1.heap.size := by omega)
  try (have z1_3 : w.heap.size + 1 + 1 + 1 < w1.heap.size := by omega)
  have b1 : Below w.heap.size w w1 := Below.trans (by (repeat (first | (with_reducible refine Below.drewN ?_) | (with_reducible refine Below.drew ?_) | ((with_reducible refine Below.alloc ?_ ?_ _); rotate_left; (first | omega | (simp <;> omega))) | ((with_reducible refine Below.setCell ?_ ?_ _); rotate_left; (first | omega | (simp <;> omega))) | (with_reducible exact Below.refl _ _) | (with_reducible assumption)))) (hb1.mono (by first | omega | (simp <;> omega)))
  have hk1 := bblk hb1
  go_wp2_with fail
  refine (c_places_r1 _ n2 _ _ _ _ _ _ p _ _ q1 q2 sec plc HS.out).mono ?_
  rintro e w2 ⟨rfl, hb2⟩
  have b2 := b1.trans (hb2.mono b1.size)
  go_wp2
  go_ret2
  exact ⟨0, rfl, b2⟩
set_option maxRecDepth 100000 in
set_option maxHeartbeats 4000000 in
theorem c_PressureAt_r2 (a1 : Option Addr) (n1 c1 : Nat) (rs1 : List Rg) (a2 : Option Addr) (n2 c2 : Nat) (rs2 : List Rg) (a3 : Option Addr) (n3 c3 : Nat) (xs3 : List Nat) (p : Pn) (op : Bool) (w : World) (h1 : RS w a1 n1 c1 rs1) (h2 : RS w a2 n2 c2 rs2) (h3 : FS w a3 n3 c3 xs3) (hv : pipeB n1 rs1 n2 rs2 n3 xs3 p = true) (s : Nat) (plc : Int) (hs : s < n1) (hq : inB plc 0 (((rat rs1 s).n : Int) - 1) = false) :
    Calls Try.prog 30 #[.agg #[.slice a1 n1 c1, .slice a2 n2 c2, .slice a3 n3 c3, .int .i64 p.k, .float .f32 p.f0, .float .f32 p.f1, .float .f32 p.f2, .float .f32 p.f3, .float .f32 p.f4, .bool op, .float .f32 p.x1, .float .f32 p.x2, .float .f32 p.x3], .int .i64 s, .int .i64 plc] w (RetFC 0 2 w) := by
  have H1 := Lib.hid h1
  have H2 := Lib.hid h2
  have H3 := Lib.hid h3
  have HV : Hid (∀ W, Below w.heap.size w W → Calls Try.prog 16 #[.agg #[.slice a1 n1 c1, .slice a2 n2 c2, .slice a3 n3 c3, .int .i64 p.k, .float .f32 p.f0, .float .f32 p.f1, .float .f32 p.f2, .float .f32 p.f3, .float .f32 p.f4, .bool op, .float .f32 p.x1, .float .f32 p.x2, .float .f32 p.x3]] W (RetV (.bool true) W)) := fun W hW => hv ▸ c_ValidPipe a1 n1 c1 rs1 a2 n2 c2 rs2 a3 n3 c3 xs3 p op W (H1.out.below hW (Nat.le_refl _)) (H2.out.below hW (Nat.le_refl _)) (H3.out.below hW (Nat.le_refl _))
  have HO := Lib.hid (pipeB_yes hv)
  have q1 := HO.out.lo
  have q2 := HO.out.hi
  obtain rfl : n2 = n1 := HO.out.eq
  have HQ := Lib.hid hq
  clear h1 h2 h3 hv hq
  go_enter Try.func30, Try.ntmps30
  go_wp2_with fail
  refine (HV.out _ (by (repeat (first | (with_reducible refine Below.drewN ?_) | (with_reducible refine Below.drew ?_) | ((with_reducible refine Below.alloc ?_ ?_ _); rotate_left; (first | omega | (simp <;> omega))) | ((with_reducible refine Below.setCell ?_ ?_ _); rotate_left; (first | omega | (simp <;> omega))) | (with_reducible exact Below.refl _ _) | (with_reducible assumption))))).mono ?_
  rintro e w1 ⟨rfl, hb1⟩
  obtain ⟨hc1, hf1, hz1⟩ := bcell hb1
  try simp at hz1
  have zb1 : w.heap.size ≤ w1.heap.size := by omega
  try (have z1_0 : w.heap.size < w1.heap.size := by omega)
  try (have z1_1 : w.heap.size + 1 < w1.heap.size := by omega)
  try (have z1_2 : w.heap.size + 1 + 1 < w1.heap.size := by omega)
  try (have z1_3 : w.heap.size + 1 + 1 + 1 < w1.heap.size := by omega)
  have b1 : Below w.heap.size w w1 := Below.trans (by (repeat (first | (with_reducible refine Below.drewN ?_) | (with_reducible refine Below.drew ?_) | ((with_reducible refine Below.alloc ?_ ?_ _); rotate_left; (first | omega | (simp <;> omega))) | ((with_reducible refine Below.setCell ?_ ?_ _); rotate_left; (first | omega | (simp <;> omega))) | (with_reducible exact Below.refl _ _) | (with_reducible assumption)))) (hb1.mono (by first | omega | (simp <;> omega)))
  have hk1 := bblk hb1
  go_wp2_with fail
  refine (c_places_r2 _ n2 _ rs1 _ _ rs2 _ _ _ p _ _ (RS.below (B := w.heap.size) H1.out b1 (Nat.le_refl _)) (RS.below (B := w.heap.size) H2.out b1 (Nat.le_refl _)) q1 q2 s plc hs HQ.out (HO.out.r1 s hs)).mono ?_
  rintro e w2 ⟨rfl, hb2⟩
  have b2 := b1.trans (hb2.mono b1.size)
  go_wp2
  go_ret2
  exact ⟨0, rfl, b2⟩
set_option maxRecDepth 100000 in
set_option maxHeartbeats 4000000 in
theorem c_PressureAt_ok (a1 : Option Addr) (n1 c1 : Nat) (rs1 : List Rg) (a2 : Option Addr) (n2 c2 : Nat) (rs2 : List Rg) (a3 : Option Addr) (n3 c3 : Nat) (xs3 : List Nat) (p : Pn) (op : Bool) (w : World) (h1 : RS w a1 n1 c1 rs1) (h2 : RS w a2 n2 c2 rs2) (h3 : FS w a3 n3 c3 xs3) (hv : pipeB n1 rs1 n2 rs2 n3 xs3 p = true) (s q : Nat) (hs : s < n1) (hq : q < (rat rs1 s).n) :
    Calls Try.prog 30 #[.agg #[.slice a1 n1 c1, .slice a2 n2 c2, .slice a3 n3 c3, .int .i64 p.k, .float .f32 p.f0, .float .f32 p.f1, .float .f32 p.f2, .float .f32 p.f3, .float .f32 p.f4, .bool op, .float .f32 p.x1, .float .f32 p.x2, .float .f32 p.x3], .int .i64 s, .int .i64 q] w (RetFC (prF (rat rs1 s) (rat rs2 s) q) 0 w) := by
  have H1 := Lib.hid h1
  have H2 := Lib.hid h2
  have H3 := Lib.hid h3
  have HV : Hid (∀ W, Below w.heap.size w W → Calls Try.prog 16 #[.agg #[.slice a1 n1 c1, .slice a2 n2 c2, .slice a3 n3 c3, .int .i64 p.k, .float .f32 p.f0, .float .f32 p.f1, .float .f32 p.f2, .float .f32 p.f3, .float .f32 p.f4, .bool op, .float .f32 p.x1, .float .f32 p.x2, .float .f32 p.x3]] W (RetV (.bool true) W)) := fun W hW => hv ▸ c_ValidPipe a1 n1 c1 rs1 a2 n2 c2 rs2 a3 n3 c3 xs3 p op W (H1.out.below hW (Nat.le_refl _)) (H2.out.below hW (Nat.le_refl _)) (H3.out.below hW (Nat.le_refl _))
  have HO := Lib.hid (pipeB_yes hv)
  have q1 := HO.out.lo
  have q2 := HO.out.hi
  obtain rfl : n2 = n1 := HO.out.eq
  clear h3 hv
  obtain ⟨d1, o1, rfl, hbl1, hcell1⟩ := h1.at_ q1
  obtain ⟨d2, o2, rfl, hbl2, hcell2⟩ := h2.at_ q1
  have kr := HO.out.r1 s hs
  have kl := HO.out.r2 s hs
  have hl := HO.out.len s hs
  have r1 := hcell1 s hs
  have r2 := hcell2 s hs
  have pl := Lib.hid (pidx_lt kr hq)
  have ll : Hid (lidx (rat rs2 s) (rat rs1 s).n q < (rat rs1 s).n) := by have := lidx_lt kl (show q < (rat rs2 s).n by omega); rw [← hl] at this; exact this
  obtain ⟨d3, o3, ha3, hbl3, hcell3⟩ := r1.fs.at_ (by omega)
  obtain ⟨d4, o4, ha4, hbl4, hcell4⟩ := r2.fs.at_ (by omega)
  have v3 := Lib.hid (hcell3 _ pl.out)
  have v4 := Lib.hid (hcell4 _ (show lidx (rat rs2 s) (rat rs1 s).n q < (rat rs2 s).n by have := ll.out; omega))
  have x1 := r1.c0
  have x2 := r2.c0
  rw [ha3] at x1
  rw [ha4, ← hl] at x2
  have X1 := Lib.hid x1
  have X2 := Lib.hid x2
  have hN := (ok_n kr).2.1
  clear hcell1 hcell2 r1 r2 hcell3 hcell4 ha3 ha4 x1 x2
  have KR := Lib.hid kr
  have KL := Lib.hid kl
  have HL := Lib.hid hl
  clear h1 h2 kr kl hl
  go_enter Try.func30, Try.ntmps30
  go_wp2_with fail
  refine (HV.out _ (by (repeat (first | (with_reducible refine Below.drewN ?_) | (with_reducible refine Below.drew ?_) | ((with_reducible refine Below.alloc ?_ ?_ _); rotate_left; (first | omega | (simp <;> omega))) | ((with_reducible refine Below.setCell ?_ ?_ _); rotate_left; (first | omega | (simp <;> omega))) | (with_reducible exact Below.refl _ _) | (with_reducible assumption))))).mono ?_
  rintro e w1 ⟨rfl, hb1⟩
  obtain ⟨hc1, hf1, hz1⟩ := bcell hb1
  try simp at hz1
  have zb1 : w.heap.size ≤ w1.heap.size := by omega
  try (have z1_0 : w.heap.size < w1.heap.size := by omega)
  try (have z1_1 : w.heap.size + 1 < w1.heap.size := by omega)
  try (have z1_2 : w.heap.size + 1 + 1 < w1.heap.size := by omega)
  try (have z1_3 : w.heap.size + 1 + 1 + 1 < w1.heap.size := by omega)
  have b1 : Below w.heap.size w w1 := Below.trans (by (repeat (first | (with_reducible refine Below.drewN ?_) | (with_reducible refine Below.drew ?_) | ((with_reducible refine Below.alloc ?_ ?_ _); rotate_left; (first | omega | (simp <;> omega))) | ((with_reducible refine Below.setCell ?_ ?_ _); rotate_left; (first | omega | (simp <;> omega))) | (with_reducible exact Below.refl _ _) | (with_reducible assumption)))) (hb1.mono (by first | omega | (simp <;> omega)))
  have hk1 := bblk hb1
  go_wp2_with fail
  refine (c_places_ok _ n2 _ rs1 _ _ rs2 _ _ _ p _ _ (RS.below (B := w.heap.size) H1.out b1 (Nat.le_refl _)) (RS.below (B := w.heap.size) H2.out b1 (Nat.le_refl _)) q1 q2 s q hs hq HL.out.symm KR.out KL.out).mono ?_
  rintro e w2 ⟨rfl, hb2⟩
  have b2 := b1.trans (hb2.mono b1.size)
  have e0 : w2.cell? ⟨w.heap.size, 0, none⟩ = some (.slice (some ⟨d1, o1, none⟩) n2 c1) := by rw [(bcell hb2).1 _ _ z1_0, hc1 _ _ (by simp)]; simp [go_sem]
  have e1 : w2.cell? ⟨w.heap.size, 1, none⟩ = some (.slice (some ⟨d2, o2, none⟩) n2 c2) := by rw [(bcell hb2).1 _ _ z1_0, hc1 _ _ (by simp)]; simp [go_sem]
  have hc := (bcell b2).1
  have x1 : w2.cell? ⟨d1, o1 + s * 2, none⟩ = _ := (hc _ _ hbl1).trans X1.out
  have x2 : w2.cell? ⟨d2, o2 + s * 2, none⟩ = _ := (hc _ _ hbl2).trans X2.out
  have v1 : w2.cell? ⟨d3, o3 + pidx (rat rs1 s) q, none⟩ = _ := (hc _ _ hbl3).trans v3.out
  have v2 : w2.cell? ⟨d4, o4 + lidx (rat rs2 s) (rat rs1 s).n q, none⟩ = _ := (hc _ _ hbl4).trans v4.out
  have pl := pl.out
  have ll := ll.out
  clear hc
  have HP : Hid (prF (rat rs1 s) (rat rs2 s) q = fop .add .f32 (nth (rat rs1 s).xs (pidx (rat rs1 s) q)) (nth (rat rs2 s).xs (lidx (rat rs2 s) (rat rs1 s).n q))) := rfl
  generalize pidx (rat rs1 s) q = P at *
  generalize lidx (rat rs2 s) (rat rs1 s).n q = L at *
  clear hb1 hb2 hc1 hf1 hk1
  go_wp2
  refine wp_region_sets' (by kernel_rfl) (by kernel_rfl) ?_
  apply Exists.intro
  iterate 18 (apply lx_want; kernel_rfl; (intro n; go_simp; exact ⟨OneV.mk _, _, (by first | rfl | exact congrArg _ (Nat.add_assoc _ _ _))⟩); rintro _ rfl)
  (apply lx_want; kernel_rfl; (intro n; go_simp; exact ⟨LF.mk _ _ _, _, (by first | rfl | exact congrArg _ (Nat.add_assoc _ _ _))⟩); rintro _ ⟨t, rfl⟩)
  iterate 2 (first | (apply lx_want; kernel_rfl; (intro n; go_simp; exact ⟨LF.mk _ _ _, _, (by first | rfl | exact congrArg _ (Nat.add_assoc _ _ _))⟩); rintro _ ⟨t, rfl⟩) | (apply lx_want; kernel_rfl; (intro n; go_simp; exact ⟨OneV.mk _, _, (by first | rfl | exact congrArg _ (Nat.add_assoc _ _ _))⟩); rintro _ rfl))
  (refine lx_nil (Vl := []) ?_; intro n; simp only [Act.put, List.setIfInBounds_toArray, List.set_cons_succ, List.set_cons_zero])
  go_wp2
  go_ret2
  exact ⟨t, by rw [HP.out]; rfl, by (repeat (first | (with_reducible refine Below.drewN ?_) | (with_reducible refine Below.drew ?_) | ((with_reducible refine Below.alloc ?_ ?_ _); rotate_left; (first | omega | (simp <;> omega))) | ((with_reducible refine Below.setCell ?_ ?_ _); rotate_left; (first | omega | (simp <;> omega))) | (with_reducible exact Below.refl _ _) | (with_reducible assumption)))⟩
theorem prF_same {rs1 ss1 rs2 ss2 : List Rg} {n s q : Nat} (h1 : sameC rs1 ss1 n) (h2 : sameC rs2 ss2 n) (hs : s < n) : prF (rat ss1 s) (rat ss2 s) q = prF (rat rs1 s) (rat rs2 s) q := by
  obtain ⟨e1, e2, e3⟩ := h1 s hs
  obtain ⟨f1, f2, f3⟩ := h2 s hs
  unfold prF pidx lidx
  rw [e1, e2, e3, f2, f3]
theorem k_PressureAt (a1 : Option Addr) (n1 c1 : Nat) (rs1 : List Rg) (a2 : Option Addr) (n2 c2 : Nat) (rs2 : List Rg) (a3 : Option Addr) (n3 c3 : Nat) (xs3 : List Nat) (k : Int) (f0 f1 f2 f3 f4 : Nat) (op : Bool) (x1 x2 x3 : Nat) (sec plc : Int) (w : World) (h1 : RS w a1 n1 c1 rs1) (h2 : RS w a2 n2 c2 rs2) (h3 : FS w a3 n3 c3 xs3) :
    Calls Try.prog 7 #[.agg #[.slice a1 n1 c1, .slice a2 n2 c2, .slice a3 n3 c3, .int .i64 k, .float .f32 f0, .float .f32 f1, .float .f32 f2, .float .f32 f3, .float .f32 f4, .bool op, .float .f32 x1, .float .f32 x2, .float .f32 x3], .int .i64 sec, .int .i64 plc] w (RetV (.bool true) w) := by
  cases hv : pipeB n1 rs1 n2 rs2 n3 xs3 ⟨k, f0, f1, f2, f3, f4, x1, x2, x3⟩
  · exact l_PressureAt a1 n1 c1 rs1 a2 n2 c2 rs2 a3 n3 c3 xs3 k f0 f1 f2 f3 f4 op x1 x2 x3 sec plc 0 1 w h1 h2 h3
      (fun W d1 d2 d3 e1 e2 e3 ss1 ss2 r1 r2 r3 s1 s2 => c_sPressureAt_no d1 n1 e1 ss1 d2 n2 e2 ss2 d3 n3 e3 xs3 ⟨k, f0, f1, f2, f3, f4, x1, x2, x3⟩ op W r1 r2 r3 (by rw [pipeB_same s1 s2]; exact hv) sec plc)
      (fun W d1 d2 d3 e1 e2 e3 ss1 ss2 r1 r2 r3 s1 s2 => c_PressureAt_no d1 n1 e1 ss1 d2 n2 e2 ss2 d3 n3 e3 xs3 ⟨k, f0, f1, f2, f3, f4, x1, x2, x3⟩ op W r1 r2 r3 (by rw [pipeB_same s1 s2]; exact hv) sec plc)
  have HO := pipeB_yes hv
  cases hs : inB sec 0 ((n1 : Int) - 1)
  · exact l_PressureAt a1 n1 c1 rs1 a2 n2 c2 rs2 a3 n3 c3 xs3 k f0 f1 f2 f3 f4 op x1 x2 x3 sec plc 0 2 w h1 h2 h3
      (fun W d1 d2 d3 e1 e2 e3 ss1 ss2 r1 r2 r3 s1 s2 => c_sPressureAt_r1 d1 n1 e1 ss1 d2 n2 e2 ss2 d3 n3 e3 xs3 ⟨k, f0, f1, f2, f3, f4, x1, x2, x3⟩ op W r1 r2 r3 (by rw [pipeB_same s1 s2]; exact hv) sec plc hs)
      (fun W d1 d2 d3 e1 e2 e3 ss1 ss2 r1 r2 r3 s1 s2 => c_PressureAt_r1 d1 n1 e1 ss1 d2 n2 e2 ss2 d3 n3 e3 xs3 ⟨k, f0, f1, f2, f3, f4, x1, x2, x3⟩ op W r1 r2 r3 (by rw [pipeB_same s1 s2]; exact hv) sec plc hs)
  have hs' := inB_yes hs
  obtain ⟨s, rfl⟩ := Int.eq_ofNat_of_zero_le hs'.1
  have hs2 : s < n1 := by have := hs'.2; omega
  cases hq : inB plc 0 (((rat rs1 s).n : Int) - 1)
  · exact l_PressureAt a1 n1 c1 rs1 a2 n2 c2 rs2 a3 n3 c3 xs3 k f0 f1 f2 f3 f4 op x1 x2 x3 s plc 0 2 w h1 h2 h3
      (fun W d1 d2 d3 e1 e2 e3 ss1 ss2 r1 r2 r3 s1 s2 => c_sPressureAt_r2 d1 n1 e1 ss1 d2 n2 e2 ss2 d3 n3 e3 xs3 ⟨k, f0, f1, f2, f3, f4, x1, x2, x3⟩ op W r1 r2 r3 (by rw [pipeB_same s1 s2]; exact hv) s plc hs2 (by rw [(s1 s hs2).1]; exact hq))
      (fun W d1 d2 d3 e1 e2 e3 ss1 ss2 r1 r2 r3 s1 s2 => c_PressureAt_r2 d1 n1 e1 ss1 d2 n2 e2 ss2 d3 n3 e3 xs3 ⟨k, f0, f1, f2, f3, f4, x1, x2, x3⟩ op W r1 r2 r3 (by rw [pipeB_same s1 s2]; exact hv) s plc hs2 (by rw [(s1 s hs2).1]; exact hq))
  have hq' := inB_yes hq
  obtain ⟨q, rfl⟩ := Int.eq_ofNat_of_zero_le hq'.1
  have hq2 : q < (rat rs1 s).n := by have := hq'.2; omega
  have e := HO.eq
  exact l_PressureAt a1 n1 c1 rs1 a2 n2 c2 rs2 a3 n3 c3 xs3 k f0 f1 f2 f3 f4 op x1 x2 x3 s q (prF (rat rs1 s) (rat rs2 s) q) 0 w h1 h2 h3
      (fun W d1 d2 d3 e1 e2 e3 ss1 ss2 r1 r2 r3 s1 s2 => by rw [← prF_same s1 (e ▸ s2) hs2]; exact c_sPressureAt_ok d1 n1 e1 ss1 d2 n2 e2 ss2 d3 n3 e3 xs3 ⟨k, f0, f1, f2, f3, f4, x1, x2, x3⟩ op W r1 r2 r3 (by rw [pipeB_same s1 s2]; exact hv) s q hs2 (by rw [(s1 s hs2).1]; exact hq2))
      (fun W d1 d2 d3 e1 e2 e3 ss1 ss2 r1 r2 r3 s1 s2 => by rw [← prF_same s1 (e ▸ s2) hs2]; exact c_PressureAt_ok d1 n1 e1 ss1 d2 n2 e2 ss2 d3 n3 e3 xs3 ⟨k, f0, f1, f2, f3, f4, x1, x2, x3⟩ op W r1 r2 r3 (by rw [pipeB_same s1 s2]; exact hv) s q hs2 (by rw [(s1 s hs2).1]; exact hq2))
end Go.Proofs.Ytfhegjjgfaeinaa
