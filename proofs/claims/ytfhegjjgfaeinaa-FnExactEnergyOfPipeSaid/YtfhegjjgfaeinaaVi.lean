
/-
The program's test of pipes.
-/
import Derived.Test.YtfhegjjgfaeinaaVs
import Derived.Test.YtfhegjjgfaeinaaRi
import Derived.Test.YtfhegjjgfaeinaaMc
namespace Go.Proofs.Ytfhegjjgfaeinaa
open Go Go.RowKit Fl
theorem c_notInside (a : Nat) (w : World) : Calls Try.prog 54 #[.float .f32 a] w (RetB (!insB a 3212836864 1065353216) w) := by
  go_enter Try.func54, Try.ntmps54
  go_wp2_with (go_at_call 55; refine (c_inside _ _ _ _).mono ?_; rintro e w' ⟨rfl, n1, rfl⟩)
  go_ret
  exact ⟨rfl, same1 _ _⟩
theorem c_IndexFuncP (a : Option Addr) (n c : Nat) (xs : List Nat) (w : World) (h : FS w a n c xs) :
    Calls Try.prog 126 #[.slice a n c, .func (.func 54) #[] #[]] w (RetIdx (!scTo xs n) w) := by
  obtain ⟨hl, hcap, hbig, hat⟩ := h
  have HA := Lib.hid hat
  clear hat
  go_enter Try.func126, Try.ntmps126
  go_wp2
  go_loopw [8] (fun i wr => ∃ k : Nat, k ≤ n ∧ i = .int .i64 k ∧ Hid (scTo xs k = true) ∧ ∃ q, wr = w.drewN q) (fun i _ => n - (intOf i).toNat)
  case atStart => exact ⟨0, by omega, rfl, rfl, 0, rfl⟩
  case round =>
    obtain ⟨k, hk, rfl, hall, q, rfl⟩ := hrel
    by_cases hlt : k < n
    · obtain ⟨b, o, rfl, hbl, hcell⟩ := HA.out (by omega)
      have hc := hcell k hlt
      clear HA hcell
      cases hf : insB (nth xs k) 3212836864 1065353216
      · have HU := Lib.hid (scTo_false hf n hlt)
        go_wp2_with (go_at_call 54; refine (c_notInside _ _).mono ?_; rintro e w' ⟨rfl, n1, rfl⟩)
        go_ret
        exact ⟨k, rfl, by rw [HU.out]; simp, same1 _ _⟩
      · have HU : Hid (scTo xs (k + 1) = true) := by rw [scTo, hall.out, hf]; rfl
        go_wp2_with (go_at_call 54; refine (c_notInside _ _).mono ?_; rintro e w' ⟨rfl, n1, rfl⟩)
        go_roundw
        case rel => exact ⟨k + 1, by omega, by go_num, HU, same1 _ _⟩
        case measure => simp [intOf]; omega
    · obtain rfl : k = n := by omega
      go_wp2
      go_ret
      exact ⟨-1, rfl, by rw [hall.out]; rfl, same1 _ _⟩
theorem c_ContainsFuncP (a : Option Addr) (n c : Nat) (xs : List Nat) (w : World) (h : FS w a n c xs) :
    Calls Try.prog 53 #[.slice a n c, .func (.func 54) #[] #[]] w (RetB (!scTo xs n) w) := by
  have H := Lib.hid h
  clear h
  go_enter Try.func53, Try.ntmps53
  go_wp2_with fail
  refine (c_IndexFuncP _ _ _ xs _ H.out).mono ?_
  rintro e w' ⟨i, rfl, hi, n1, rfl⟩
  go_wp2
  go_ret
  exact ⟨by simp, same1 _ _⟩
theorem pipeB_i1 {n1 : Nat} {rs1 : List Rg} {n2 : Nat} {rs2 : List Rg} {n3 : Nat} {xs3 : List Nat} {p : Pn} (h : inB n1 1 3 = false) : pipeB n1 rs1 n2 rs2 n3 xs3 p = false := by
  unfold pipeB; rw [h]; rfl
theorem pipeB_i2 {n1 : Nat} {rs1 : List Rg} {n2 : Nat} {rs2 : List Rg} {n3 : Nat} {xs3 : List Nat} {p : Pn} (h : ¬ (n2 : Int) = n1) : pipeB n1 rs1 n2 rs2 n3 xs3 p = false := by
  unfold pipeB; rw [decide_eq_false h]; simp
theorem pipeB_i3 {n1 : Nat} {rs1 : List Rg} {n2 : Nat} {rs2 : List Rg} {n3 : Nat} {xs3 : List Nat} {p : Pn} (h : ¬ (n3 : Int) = n1 - 1) : pipeB n1 rs1 n2 rs2 n3 xs3 p = false := by
  unfold pipeB; rw [decide_eq_false h]; simp
/-- the first k rings of both lists are valid, and pairwise as long -/
def prTo (rs ss : List Rg) : Nat → Bool
  | 0 => true
  | k + 1 => prTo rs ss k && ((rat rs k).ok && ((rat ss k).ok && decide (((rat rs k).n : Int) = (rat ss k).n)))
theorem prTo_eq (rs ss : List Rg) : ∀ k, prTo rs ss k = (rgsTo rs k && (rgsTo ss k && lenTo rs ss k))
  | 0 => rfl
  | k + 1 => by
    rw [prTo, prTo_eq rs ss k, rgsTo, rgsTo, lenTo]
    cases rgsTo rs k <;> cases rgsTo ss k <;> cases lenTo rs ss k <;> cases (rat rs k).ok <;> cases (rat ss k).ok <;> simp
theorem prTo_false {rs ss : List Rg} {k : Nat} (h : ((rat rs k).ok && ((rat ss k).ok && decide (((rat rs k).n : Int) = (rat ss k).n))) = false) : ∀ n, k < n → prTo rs ss n = false
  | 0, hn => absurd hn (by omega)
  | n + 1, hn => by
    by_cases e : k = n
    · subst e; rw [prTo, h, Bool.and_false]
    · rw [prTo, prTo_false h n (by omega), Bool.false_and]
theorem pipeB_in {n1 : Nat} {rs1 : List Rg} {n2 : Nat} {rs2 : List Rg} {n3 : Nat} {xs3 : List Nat} {p : Pn} (h1 : inB n1 1 3 = true) (h2 : (n2 : Int) = n1) (h3 : (n3 : Int) = n1 - 1) :
    pipeB n1 rs1 n2 rs2 n3 xs3 p = ((okF p.k [p.f0, p.f1, p.f2] [p.f3, p.f4] && (p.k == 1)) && (finTo [p.x1, p.x2, p.x3] 3 && (prTo rs1 rs2 n1 && scTo xs3 n3))) := by
  unfold pipeB; rw [h1, decide_eq_true h2, decide_eq_true h3, prTo_eq]
  cases rgsTo rs1 n1 <;> cases rgsTo rs2 n1 <;> cases lenTo rs1 rs2 n1 <;> cases scTo xs3 n3 <;> cases okF p.k [p.f0, p.f1, p.f2] [p.f3, p.f4] <;> cases (p.k == 1) <;> cases finTo [p.x1, p.x2, p.x3] 3 <;> rfl
set_option maxRecDepth 100000 in
set_option maxHeartbeats 4000000 in
theorem c_ValidPipe (a1 : Option Addr) (n1 c1 : Nat) (rs1 : List Rg) (a2 : Option Addr) (n2 c2 : Nat) (rs2 : List Rg) (a3 : Option Addr) (n3 c3 : Nat) (xs3 : List Nat) (p : Pn) (op : Bool) (w : World) (h1 : RS w a1 n1 c1 rs1) (h2 : RS w a2 n2 c2 rs2) (h3 : FS w a3 n3 c3 xs3) :
    Calls Try.prog 16 #[.agg #[.slice a1 n1 c1, .slice a2 n2 c2, .slice a3 n3 c3, .int .i64 p.k, .float .f32 p.f0, .float .f32 p.f1, .float .f32 p.f2, .float .f32 p.f3, .float .f32 p.f4, .bool op, .float .f32 p.x1, .float .f32 p.x2, .float .f32 p.x3]] w (RetV (.bool (pipeB n1 rs1 n2 rs2 n3 xs3 p)) w) := by
  have m1 : n1 ≤ 9223372036854775807 := Nat.le_trans h1.cap h1.big
  have m2 : n2 ≤ 9223372036854775807 := Nat.le_trans h2.cap h2.big
  have m3 : n3 ≤ 9223372036854775807 := Nat.le_trans h3.cap h3.big
  have H1 := Lib.hid h1
  have H2 := Lib.hid h2
  have H3 := Lib.hid h3
  clear h1 h2 h3
  have KI : Hid (∀ W, Calls Try.prog 49 #[.int .i64 n1, .int .i64 1, .int .i64 3] W (RetB (inB n1 1 3) W)) := fun W => c_within _ _ _ W
  cases i1 : inB n1 1 3
  · rw [i1] at KI
    rw [pipeB_i1 i1]
    clear i1
    go_enter Try.func16, Try.ntmps16
    go_wp2_with fail
    refine (KI.out _).mono ?_
    rintro e w' ⟨rfl, d1, rfl⟩
    go_wp2
    go_ret
    exact ⟨rfl, by (repeat (first | (with_reducible refine Below.drewN ?_) | (with_reducible refine Below.drew ?_) | ((with_reducible refine Below.alloc ?_ ?_ _); rotate_left; (first | omega | (simp <;> omega))) | ((with_reducible refine Below.setCell ?_ ?_ _); rotate_left; (first | omega | (simp <;> omega))) | (with_reducible exact Below.refl _ _) | (with_reducible assumption)))⟩
  rw [i1] at KI
  by_cases q3 : (n2 : Int) = n1
  rotate_left
  · rw [pipeB_i2 q3]
    clear i1
    go_enter Try.func16, Try.ntmps16
    go_wp2_with fail
    refine (KI.out _).mono ?_
    rintro e w' ⟨rfl, d1, rfl⟩
    go_wp2
    go_ret
    exact ⟨rfl, by (repeat (first | (with_reducible refine Below.drewN ?_) | (with_reducible refine Below.drew ?_) | ((with_reducible refine Below.alloc ?_ ?_ _); rotate_left; (first | omega | (simp <;> omega))) | ((with_reducible refine Below.setCell ?_ ?_ _); rotate_left; (first | omega | (simp <;> omega))) | (with_reducible exact Below.refl _ _) | (with_reducible assumption)))⟩
  have I1 := inB_yes i1
  by_cases q4 : (n3 : Int) = n1 - 1
  rotate_left
  · rw [pipeB_i3 q4]
    clear i1
    have wr : IntKind.i64.wrap ((n1 : Int) - 1) = (n1 : Int) - 1 := IntWalk.i64_in _ (by omega)
    go_enter Try.func16, Try.ntmps16
    go_wp2_with fail
    refine (KI.out _).mono ?_
    rintro e w' ⟨rfl, d1, rfl⟩
    go_wp2
    go_ret
    exact ⟨rfl, by (repeat (first | (with_reducible refine Below.drewN ?_) | (with_reducible refine Below.drew ?_) | ((with_reducible refine Below.alloc ?_ ?_ _); rotate_left; (first | omega | (simp <;> omega))) | ((with_reducible refine Below.setCell ?_ ?_ _); rotate_left; (first | omega | (simp <;> omega))) | (with_reducible exact Below.refl _ _) | (with_reducible assumption)))⟩
  rw [pipeB_in i1 q3 q4]
  obtain rfl : n2 = n1 := by omega
  obtain rfl : n3 = n2 - 1 := by omega
  have wr : IntKind.i64.wrap ((n2 : Int) - 1) = ((n2 - 1 : Nat) : Int) := by rw [← q4]; exact IntWalk.i64_in _ (by omega)
  have J1 := Lib.hid I1
  clear i1 q3 q4 I1
  have KF : Hid (∀ W, Calls Try.prog 50 #[.agg #[.int .i64 p.k, .float .f32 p.f0, .float .f32 p.f1, .float .f32 p.f2, .float .f32 p.f3, .float .f32 p.f4], .int .i64 1] W (RetV (.bool (okF p.k [p.f0, p.f1, p.f2] [p.f3, p.f4] && (p.k == 1))) W)) := fun W => c_isFilter _ _ _ _ _ _ _ W
  have KN : Hid (∀ W g, FS W (some ⟨g, 0, none⟩) 3 3 [p.x1, p.x2, p.x3] → Calls Try.prog 51 #[.slice (some ⟨g, 0, none⟩) 3 3] W (RetB (finTo [p.x1, p.x2, p.x3] 3) W)) := fun W g hf => c_areFinite _ _ _ _ W hf
  generalize hA : (okF p.k [p.f0, p.f1, p.f2] [p.f3, p.f4] && (p.k == 1)) = A at *
  cases A
  · clear hA
    go_enter Try.func16, Try.ntmps16
    go_wp2_with fail
    refine (KI.out _).mono ?_
    rintro e w' ⟨rfl, d1, rfl⟩
    go_wp2_with fail
    refine (KF.out _).mono ?_
    rintro e w1 ⟨rfl, hb1⟩
    obtain ⟨hc1, hf1, hz1⟩ := bcell hb1
    try simp at hz1
    have zb1 : w.heap.size ≤ w1.heap.size := by omega
    try (have z1_0 : w.heap.size < w1.heap.size := by omega)
    try (have z1_1 : w.heap.size + 1 < w1.heap.size := by omega)
    try (have z1_2 : w.heap.size + 1 + 1 < w1.heap.size := by omega)
    try (have z1_3 : w.heap.size + 1 + 1 + 1 < w1.heap.size := by omega)
    have b1 : Below w.heap.size w w1 := Below.trans (by (repeat (first | (with_reducible refine Below.drewN ?_) | (with_reducible refine Below.drew ?_) | ((with_reducible refine Below.alloc ?_ ?_ _); rotate_left; (first | omega | (simp <;> omega))) | ((with_reducible refine Below.setCell ?_ ?_ _); rotate_left; (first | omega | (simp <;> omega))) | (with_reducible exact Below.refl _ _) | (with_reducible assumption)))) (hb1.mono (by first | omega | (simp <;> omega)))
    go_wp2
    go_ret
    exact ⟨rfl, by (repeat (first | (with_reducible refine Below.drewN ?_) | (with_reducible refine Below.drew ?_) | ((with_reducible refine Below.alloc ?_ ?_ _); rotate_left; (first | omega | (simp <;> omega))) | ((with_reducible refine Below.setCell ?_ ?_ _); rotate_left; (first | omega | (simp <;> omega))) | (with_reducible exact Below.refl _ _) | (with_reducible assumption)))⟩
  clear hA
  generalize hN : finTo [p.x1, p.x2, p.x3] 3 = N at *
  cases N
  · clear hN
    go_enter Try.func16, Try.ntmps16
    go_wp2_with fail
    refine (KI.out _).mono ?_
    rintro e w' ⟨rfl, d1, rfl⟩
    go_wp2_with fail
    refine (KF.out _).mono ?_
    rintro e w1 ⟨rfl, hb1⟩
    obtain ⟨hc1, hf1, hz1⟩ := bcell hb1
    try simp at hz1
    have zb1 : w.heap.size ≤ w1.heap.size := by omega
    try (have z1_0 : w.heap.size < w1.heap.size := by omega)
    try (have z1_1 : w.heap.size + 1 < w1.heap.size := by omega)
    try (have z1_2 : w.heap.size + 1 + 1 < w1.heap.size := by omega)
    try (have z1_3 : w.heap.size + 1 + 1 + 1 < w1.heap.size := by omega)
    have b1 : Below w.heap.size w w1 := Below.trans (by (repeat (first | (with_reducible refine Below.drewN ?_) | (with_reducible refine Below.drew ?_) | ((with_reducible refine Below.alloc ?_ ?_ _); rotate_left; (first | omega | (simp <;> omega))) | ((with_reducible refine Below.setCell ?_ ?_ _); rotate_left; (first | omega | (simp <;> omega))) | (with_reducible exact Below.refl _ _) | (with_reducible assumption)))) (hb1.mono (by first | omega | (simp <;> omega)))
    go_wp2_with fail
    refine (KN.out _ _ (OF.fs (g := _) (OF.made' (xs := [p.x1, p.x2, p.x3]) (by simp) rfl (by omega)))).mono ?_
    rintro e w' ⟨rfl, d2, rfl⟩
    go_wp2
    go_ret
    exact ⟨rfl, by (repeat (first | (with_reducible refine Below.drewN ?_) | (with_reducible refine Below.drew ?_) | ((with_reducible refine Below.alloc ?_ ?_ _); rotate_left; (first | omega | (simp <;> omega))) | ((with_reducible refine Below.setCell ?_ ?_ _); rotate_left; (first | omega | (simp <;> omega))) | (with_reducible exact Below.refl _ _) | (with_reducible assumption)))⟩
  clear hN
  obtain ⟨b1, o1, rfl, hbl1, hcell1⟩ := H1.out.at_ (by have := J1.out; omega)
  obtain ⟨b2, o2, rfl, hbl2, hcell2⟩ := H2.out.at_ (by have := J1.out; omega)
  have C1 := Lib.hid hcell1
  have C2 := Lib.hid hcell2
  clear hcell1 hcell2 H1 H2
  go_enter Try.func16, Try.ntmps16
  go_wp2_with fail
  refine (KI.out _).mono ?_
  rintro e w' ⟨rfl, d1, rfl⟩
  go_wp2_with fail
  refine (KF.out _).mono ?_
  rintro e w1 ⟨rfl, hb1⟩
  obtain ⟨hc1, hf1, hz1⟩ := bcell hb1
  try simp at hz1
  have zb1 : w.heap.size ≤ w1.heap.size := by omega
  try (have z1_0 : w.heap.size < w1.heap.size := by omega)
  try (have z1_1 : w.heap.size + 1 < w1.heap.size := by omega)
  try (have z1_2 : w.heap.size + 1 + 1 < w1.heap.size := by omega)
  try (have z1_3 : w.heap.size + 1 + 1 + 1 < w1.heap.size := by omega)
  have b1 : Below w.heap.size w w1 := Below.trans (by (repeat (first | (with_reducible refine Below.drewN ?_) | (with_reducible refine Below.drew ?_) | ((with_reducible refine Below.alloc ?_ ?_ _); rotate_left; (first | omega | (simp <;> omega))) | ((with_reducible refine Below.setCell ?_ ?_ _); rotate_left; (first | omega | (simp <;> omega))) | (with_reducible exact Below.refl _ _) | (with_reducible assumption)))) (hb1.mono (by first | omega | (simp <;> omega)))
  go_wp2_with fail
  refine (KN.out _ _ (OF.fs (g := _) (OF.made' (xs := [p.x1, p.x2, p.x3]) (by simp) rfl (by omega)))).mono ?_
  rintro e w' ⟨rfl, d2, rfl⟩
  clear KI KF KN
  go_upto_region 5 with fail
  refine wp_named ?_
  intro W0 hW0
  have bW : Below w.heap.size w W0 := by rw [hW0]; (repeat (first | (with_reducible refine Below.drewN ?_) | (with_reducible refine Below.drew ?_) | ((with_reducible refine Below.alloc ?_ ?_ _); rotate_left; (first | omega | (simp <;> omega))) | ((with_reducible refine Below.setCell ?_ ?_ _); rotate_left; (first | omega | (simp <;> omega))) | (with_reducible exact Below.refl _ _) | (with_reducible assumption)))
  have zW : w.heap.size < W0.heap.size := by rw [hW0]; simp; omega
  have e1 : W0.cell? ⟨w.heap.size, 1, none⟩ = some (.slice (some ⟨b2, o2, none⟩) n2 c2) := by rw [hW0]; simp [go_sem, *]
  have e2 : W0.cell? ⟨w.heap.size, 2, none⟩ = some (.slice a3 (n2 - 1) c3) := by rw [hW0]; simp [go_sem, *]
  clear hW0 hc1 hf1 hz1 zb1 b1 hb1
  try clear z1_0
  try clear z1_1
  try clear z1_2
  try clear z1_3
  go_loopw [4, 5, 47] (fun _ _ i wr => ∃ k : Nat, k ≤ n2 ∧ i = .int .i64 k ∧ Hid (prTo rs1 rs2 k = true) ∧ Below W0.heap.size W0 wr) (fun _ _ i _ => n2 - (intOf i).toNat)
  case atStart => exact ⟨0, by omega, rfl, rfl, Below.refl _ _⟩
  case round =>
    obtain ⟨k, hk, rfl, hall, hbe⟩ := hrel
    obtain ⟨hcW, hfW, hzW⟩ := bcell hbe
    have zL : w.heap.size < wr.heap.size := by omega
    have BW := Lib.hid (bW.trans (hbe.mono bW.size))
    have E1 : wr.cell? ⟨w.heap.size, 1, none⟩ = some (.slice (some ⟨b2, o2, none⟩) n2 c2) := by rw [hcW _ _ zW]; exact e1
    have E2 : wr.cell? ⟨w.heap.size, 2, none⟩ = some (.slice a3 (n2 - 1) c3) := by rw [hcW _ _ zW]; exact e2
    have HBE := Lib.hid hbe
    clear e1 e2 hcW hfW hzW hbe bW zW
    by_cases hlt : k < n2
    · have r1 := (C1.out k hlt).below BW.out (Nat.le_refl _) hbl1
      have r2 := (C2.out k hlt).below BW.out (Nat.le_refl _) hbl2
      have y1 : b1 < wr.heap.size := by omega
      have y2 : b2 < wr.heap.size := by omega
      have u0 := r1.c0
      have u1 := r1.c1
      have v0 := r2.c0
      have v1 := r2.c1
      have F1 := Lib.hid r1.fs
      have F2 := Lib.hid r2.fs
      have e0 : (rat rs1 k).ok = (ringB (rat rs1 k).n (rat rs1 k).i && finTo (rat rs1 k).xs (rat rs1 k).n) := rfl
      have e0' : (rat rs2 k).ok = (ringB (rat rs2 k).n (rat rs2 k).i && finTo (rat rs2 k).xs (rat rs2 k).n) := rfl
      have e0 := Lib.hid e0
      have e0' := Lib.hid e0'
      clear r1 r2
      go_upto_region 7 with fail
      refine wp_named ?_
      intro W1 hW1
      have gW : Below wr.heap.size wr W1 := by rw [hW1]; (repeat (first | (with_reducible refine Below.drewN ?_) | (with_reducible refine Below.drew ?_) | ((with_reducible refine Below.alloc ?_ ?_ _); rotate_left; (first | omega | (simp <;> omega))) | ((with_reducible refine Below.setCell ?_ ?_ _); rotate_left; (first | omega | (simp <;> omega))) | (with_reducible exact Below.refl _ _) | (with_reducible assumption)))
      have zz : W1.heap.size = wr.heap.size + 1 := by rw [hW1]; simp
      have t0 : W1.cell? ⟨wr.heap.size, 0, none⟩ = some (.slice (rat rs1 k).a (rat rs1 k).n (rat rs1 k).c) := by rw [hW1]; simp [go_sem, *]
      have t1 : W1.cell? ⟨wr.heap.size, 1, none⟩ = some (.int .i64 (rat rs1 k).i) := by rw [hW1]; simp [go_sem, *]
      clear hW1
      have z1 : wr.heap.size < W1.heap.size := by omega
      have z2 : w.heap.size < W1.heap.size := by omega
      have z3 : b2 < W1.heap.size := by omega
      have Z := Lib.hid zz
      clear zz
      have hc := (bcell gW).1
      rw [← hc _ _ zL] at E1
      rw [← hc _ _ y2] at v0
      rw [← hc _ _ y2] at v1
      have GW := Lib.hid gW
      clear hc gW E2 u0 u1
      have R1 : Hid (∀ W, Grow W1 W → Calls Try.prog 52 #[.agg #[.slice (rat rs1 k).a (rat rs1 k).n (rat rs1 k).c, .int .i64 (rat rs1 k).i]] W (RetV (.bool (rat rs1 k).ok) W)) := fun W hW => e0.out ▸ c_isRing _ _ _ _ _ W (F1.out.below (GW.out.trans (Below.mono hW GW.out.size)) (Nat.le_refl _))
      have R2 : Hid (∀ W, Grow W1 W → Calls Try.prog 52 #[.agg #[.slice (rat rs2 k).a (rat rs2 k).n (rat rs2 k).c, .int .i64 (rat rs2 k).i]] W (RetV (.bool (rat rs2 k).ok) W)) := fun W hW => e0'.out ▸ c_isRing _ _ _ _ _ W (F2.out.below (GW.out.trans (Below.mono hW GW.out.size)) (Nat.le_refl _))
      have PF : Hid (((rat rs1 k).ok && ((rat rs2 k).ok && decide (((rat rs1 k).n : Int) = (rat rs2 k).n))) = false → prTo rs1 rs2 n2 = false) := fun h => prTo_false h n2 hlt
      have PT : Hid (((rat rs1 k).ok && ((rat rs2 k).ok && decide (((rat rs1 k).n : Int) = (rat rs2 k).n))) = true → prTo rs1 rs2 (k + 1) = true) := fun h => by rw [prTo, hall.out, h]; rfl
      clear e0 e0' F1 F2 hall C1 C2 hbl1 hbl2
      cases o1 : (rat rs1 k).ok
      · rw [o1] at R1
        have HU := Lib.hid (PF.out (by rw [o1]; rfl))
        clear PF PT R2 o1
        refine wp_region_grow [] [] (by kernel_rfl) (by kernel_rfl) (by kernel_rfl) ?_
        apply Exists.intro
        (apply lh_o; kernel_rfl; kernel_rfl; kernel_rfl; (intro W hW; have hWc := Grow.cells hW; go_simp; exact ⟨OneV.mk _, Grow.refl _⟩))
        (apply lh_o; kernel_rfl; kernel_rfl; kernel_rfl; (intro W hW; go_simp; first | exact gB (R1.out _ hW) | exact gV (R1.out _ hW)))
        iterate 2 (apply lh_o; kernel_rfl; kernel_rfl; kernel_rfl; (intro W hW; have hWc := Grow.cells hW; go_simp; exact ⟨OneV.mk _, Grow.refl _⟩))
        iterate 7 (apply lh_skip; kernel_rfl; kernel_rfl)
        iterate 2 (apply lh_o; kernel_rfl; kernel_rfl; kernel_rfl; (intro W hW; have hWc := Grow.cells hW; go_simp; exact ⟨OneV.mk _, Grow.refl _⟩))
        iterate 11 (apply lh_skip; kernel_rfl; kernel_rfl)
        (apply lh_o; kernel_rfl; kernel_rfl; kernel_rfl; (intro W hW; have hWc := Grow.cells hW; go_simp; exact ⟨OneV.mk _, Grow.refl _⟩))
        (refine lh_nil ?_; intro W hW; simp only [Act.put, List.setIfInBounds_toArray, List.set_cons_succ, List.set_cons_zero])
        go_wp2
        go_ret
        exact ⟨by rw [HU.out]; rfl, BW.out.trans (Below.mono (GW.out.trans (Below.mono hW GW.out.size)) (by have := BW.out.size; omega))⟩
      rw [o1] at R1
      cases o2 : (rat rs2 k).ok
      · rw [o2] at R2
        have HU := Lib.hid (PF.out (by rw [o2]; simp))
        clear PF PT o1 o2
        refine wp_region_grow [] [] (by kernel_rfl) (by kernel_rfl) (by kernel_rfl) ?_
        apply Exists.intro
        (apply lh_o; kernel_rfl; kernel_rfl; kernel_rfl; (intro W hW; have hWc := Grow.cells hW; go_simp; exact ⟨OneV.mk _, Grow.refl _⟩))
        (apply lh_o; kernel_rfl; kernel_rfl; kernel_rfl; (intro W hW; go_simp; first | exact gB (R1.out _ hW) | exact gV (R1.out _ hW)))
        iterate 7 (apply lh_o; kernel_rfl; kernel_rfl; kernel_rfl; (intro W hW; have hWc := Grow.cells hW; go_simp; exact ⟨OneV.mk _, Grow.refl _⟩))
        (apply lh_o; kernel_rfl; kernel_rfl; kernel_rfl; (intro W hW; go_simp; first | exact gB (R2.out _ hW) | exact gV (R2.out _ hW)))
        iterate 3 (apply lh_o; kernel_rfl; kernel_rfl; kernel_rfl; (intro W hW; have hWc := Grow.cells hW; go_simp; exact ⟨OneV.mk _, Grow.refl _⟩))
        iterate 11 (apply lh_skip; kernel_rfl; kernel_rfl)
        (apply lh_o; kernel_rfl; kernel_rfl; kernel_rfl; (intro W hW; have hWc := Grow.cells hW; go_simp; exact ⟨OneV.mk _, Grow.refl _⟩))
        (refine lh_nil ?_; intro W hW; simp only [Act.put, List.setIfInBounds_toArray, List.set_cons_succ, List.set_cons_zero])
        go_wp2
        go_ret
        exact ⟨by rw [HU.out]; rfl, BW.out.trans (Below.mono (GW.out.trans (Below.mono hW GW.out.size)) (by have := BW.out.size; omega))⟩
      rw [o2] at R2
      by_cases o3 : ((rat rs1 k).n : Int) = (rat rs2 k).n
      · have HU := Lib.hid (PT.out (by rw [o1, o2, decide_eq_true o3]; rfl))
        rw [show (rat rs2 k).n = (rat rs1 k).n by omega] at v0 R2
        clear PF PT o1 o2 o3
        refine wp_region_grow [] [] (by kernel_rfl) (by kernel_rfl) (by kernel_rfl) ?_
        apply Exists.intro
        (apply lh_o; kernel_rfl; kernel_rfl; kernel_rfl; (intro W hW; have hWc := Grow.cells hW; go_simp; exact ⟨OneV.mk _, Grow.refl _⟩))
        (apply lh_o; kernel_rfl; kernel_rfl; kernel_rfl; (intro W hW; go_simp; first | exact gB (R1.out _ hW) | exact gV (R1.out _ hW)))
        iterate 7 (apply lh_o; kernel_rfl; kernel_rfl; kernel_rfl; (intro W hW; have hWc := Grow.cells hW; go_simp; exact ⟨OneV.mk _, Grow.refl _⟩))
        (apply lh_o; kernel_rfl; kernel_rfl; kernel_rfl; (intro W hW; go_simp; first | exact gB (R2.out _ hW) | exact gV (R2.out _ hW)))
        iterate 15 (apply lh_o; kernel_rfl; kernel_rfl; kernel_rfl; (intro W hW; have hWc := Grow.cells hW; go_simp; exact ⟨OneV.mk _, Grow.refl _⟩))
        (refine lh_nil ?_; intro W hW; simp only [Act.put, List.setIfInBounds_toArray, List.set_cons_succ, List.set_cons_zero])
        go_wp2
        go_roundw
        case rel => exact ⟨k + 1, by omega, by go_num, HU, HBE.out.trans (Below.mono (GW.out.trans (Below.mono hW GW.out.size)) HBE.out.size)⟩
        case measure => simp [intOf]; omega
      · have HU := Lib.hid (PF.out (by rw [decide_eq_false o3]; simp))
        clear PF PT o1 o2
        refine wp_region_grow [] [] (by kernel_rfl) (by kernel_rfl) (by kernel_rfl) ?_
        apply Exists.intro
        (apply lh_o; kernel_rfl; kernel_rfl; kernel_rfl; (intro W hW; have hWc := Grow.cells hW; go_simp; exact ⟨OneV.mk _, Grow.refl _⟩))
        (apply lh_o; kernel_rfl; kernel_rfl; kernel_rfl; (intro W hW; go_simp; first | exact gB (R1.out _ hW) | exact gV (R1.out _ hW)))
        iterate 7 (apply lh_o; kernel_rfl; kernel_rfl; kernel_rfl; (intro W hW; have hWc := Grow.cells hW; go_simp; exact ⟨OneV.mk _, Grow.refl _⟩))
        (apply lh_o; kernel_rfl; kernel_rfl; kernel_rfl; (intro W hW; go_simp; first | exact gB (R2.out _ hW) | exact gV (R2.out _ hW)))
        iterate 15 (apply lh_o; kernel_rfl; kernel_rfl; kernel_rfl; (intro W hW; have hWc := Grow.cells hW; go_simp; exact ⟨OneV.mk _, Grow.refl _⟩))
        (refine lh_nil ?_; intro W hW; simp only [Act.put, List.setIfInBounds_toArray, List.set_cons_succ, List.set_cons_zero])
        go_wp2
        go_ret
        exact ⟨by rw [HU.out]; rfl, BW.out.trans (Below.mono (GW.out.trans (Below.mono hW GW.out.size)) (by have := BW.out.size; omega))⟩
    · obtain rfl : n2 = k := by omega
      have HL := Lib.hid hall.out
      clear hall C1 C2
      go_wp2_with fail
      refine (c_ContainsFuncP _ _ _ xs3 _ (FS.below (B := w.heap.size) H3.out BW.out (Nat.le_refl _))).mono ?_
      rintro e w' ⟨rfl, d3, rfl⟩
      have bE := BW.out
      go_wp2
      go_ret
      exact ⟨by rw [HL.out]; simp, by (repeat (first | (with_reducible refine Below.drewN ?_) | (with_reducible refine Below.drew ?_) | ((with_reducible refine Below.alloc ?_ ?_ _); rotate_left; (first | omega | (simp <;> omega))) | ((with_reducible refine Below.setCell ?_ ?_ _); rotate_left; (first | omega | (simp <;> omega))) | (with_reducible exact Below.refl _ _) | (with_reducible assumption)))⟩
end Go.Proofs.Ytfhegjjgfaeinaa
