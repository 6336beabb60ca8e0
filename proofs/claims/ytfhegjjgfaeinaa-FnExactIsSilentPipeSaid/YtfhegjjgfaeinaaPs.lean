
/-
Is a pipe silent.
-/
import Derived.Test.YtfhegjjgfaeinaaPr
import Derived.Test.YtfhegjjgfaeinaaWIsSilentPipe
namespace Go.Proofs.Ytfhegjjgfaeinaa
open Go Go.RowKit Fl
theorem c_l04ZeroS (a : Option Addr) (n c : Nat) (rs : List Rg) (w : World) (h : RS w a n c rs) (h0 : 0 < n) (hn : n ≤ 1048576) : Calls Try.prog 136 #[.slice a n c] w (RetB (rgsZero rs n) w) := by
  obtain ⟨b, o, rfl, hbl, hc⟩ := h.at_ h0
  exact c_l04Zero b o rs n c w hn hc
theorem c_l04Silent (b : Nat) (a1 : Option Addr) (n1 c1 : Nat) (rs1 : List Rg) (a2 : Option Addr) (n2 c2 : Nat) (rs2 : List Rg) (a3 : Option Addr) (n3 c3 : Nat) (p : Pn) (w : World) (hp : PBox w b a1 n1 c1 a2 n2 c2 a3 n3 c3 p) (h1 : RS w a1 n1 c1 rs1) (h2 : RS w a2 n2 c2 rs2) (l1 : 0 < n1) (u1 : n1 ≤ 3) (l2 : 0 < n2) (u2 : n2 ≤ 3) :
    Calls Try.prog 91 #[.pointer (some ⟨b, 0, none⟩)] w (RetV (.bool (rgsZero rs1 n1 && (rgsZero rs2 n2 && stillB p.f3 p.f4))) w) := by
  have e0 := hp.e0
  have e1 := hp.e1
  have K1 : Hid (∀ k, Calls Try.prog 136 #[.slice a1 n1 c1] (w.drewN k) (RetB (rgsZero rs1 n1) (w.drewN k))) := fun k => c_l04ZeroS _ _ _ _ _ h1.draw l1 (by omega)
  have K2 : Hid (∀ k, Calls Try.prog 136 #[.slice a2 n2 c2] (w.drewN k) (RetB (rgsZero rs2 n2) (w.drewN k))) := fun k => c_l04ZeroS _ _ _ _ _ h2.draw l2 (by omega)
  have K3 : Hid (∀ k, Calls Try.prog 137 #[.pointer (some ⟨b, 3, none⟩)] (w.drewN k) (RetB (stillB p.f3 p.f4) (w.drewN k))) := fun k => c_l02Still b 3 _ _ _ hp.e7 hp.e8
  have K0 : Hid (Calls Try.prog 136 #[.slice a1 n1 c1] w (RetB (rgsZero rs1 n1) w)) := c_l04ZeroS _ _ _ _ _ h1 l1 (by omega)
  clear hp h1 h2
  cases z1 : rgsZero rs1 n1
  · rw [z1] at K0
    clear z1
    go_enter Try.func91, Try.ntmps91
    go_wp2_with fail
    refine K0.out.mono ?_
    rintro e w' ⟨rfl, d1, rfl⟩
    go_wp2
    go_ret
    exact ⟨rfl, by (repeat (first | (with_reducible refine Below.drewN ?_) | (with_reducible refine Below.drew ?_) | ((with_reducible refine Below.alloc ?_ ?_ _); rotate_left; (first | omega | (simp <;> omega))) | ((with_reducible refine Below.setCell ?_ ?_ _); rotate_left; (first | omega | (simp <;> omega))) | (with_reducible exact Below.refl _ _) | (with_reducible assumption)))⟩
  rw [z1] at K0
  clear z1
  cases z2 : rgsZero rs2 n2
  · rw [z2] at K2
    clear z2
    go_enter Try.func91, Try.ntmps91
    go_wp2_with fail
    refine K0.out.mono ?_
    rintro e w' ⟨rfl, d1, rfl⟩
    go_wp2_with fail
    refine (K2.out _).mono ?_
    rintro e w' ⟨rfl, d2, rfl⟩
    go_wp2
    go_ret
    exact ⟨rfl, by (repeat (first | (with_reducible refine Below.drewN ?_) | (with_reducible refine Below.drew ?_) | ((with_reducible refine Below.alloc ?_ ?_ _); rotate_left; (first | omega | (simp <;> omega))) | ((with_reducible refine Below.setCell ?_ ?_ _); rotate_left; (first | omega | (simp <;> omega))) | (with_reducible exact Below.refl _ _) | (with_reducible assumption)))⟩
  rw [z2] at K2
  clear z2
  go_enter Try.func91, Try.ntmps91
  go_wp2_with fail
  refine K0.out.mono ?_
  rintro e w' ⟨rfl, d1, rfl⟩
  go_wp2_with fail
  refine (K2.out _).mono ?_
  rintro e w' ⟨rfl, d2, rfl⟩
  try simp only [World.drewN_drewN]
  go_wp2_with fail
  refine (K3.out _).mono ?_
  rintro e w' ⟨rfl, d3, rfl⟩
  go_wp2
  go_ret
  exact ⟨rfl, by (repeat (first | (with_reducible refine Below.drewN ?_) | (with_reducible refine Below.drew ?_) | ((with_reducible refine Below.alloc ?_ ?_ _); rotate_left; (first | omega | (simp <;> omega))) | ((with_reducible refine Below.setCell ?_ ?_ _); rotate_left; (first | omega | (simp <;> omega))) | (with_reducible exact Below.refl _ _) | (with_reducible assumption)))⟩
set_option maxRecDepth 100000 in
set_option maxHeartbeats 2000000 in
theorem c_sIsSilentPipe_no (a1 : Option Addr) (n1 c1 : Nat) (rs1 : List Rg) (a2 : Option Addr) (n2 c2 : Nat) (rs2 : List Rg) (a3 : Option Addr) (n3 c3 : Nat) (xs3 : List Nat) (p : Pn) (op : Bool) (w : World) (h1 : RS w a1 n1 c1 rs1) (h2 : RS w a2 n2 c2 rs2) (h3 : FS w a3 n3 c3 xs3) (hv : pipeB n1 rs1 n2 rs2 n3 xs3 p = false) :
    Calls Try.prog 31 #[.agg #[.slice a1 n1 c1, .slice a2 n2 c2, .slice a3 n3 c3, .int .i64 p.k, .float .f32 p.f0, .float .f32 p.f1, .float .f32 p.f2, .float .f32 p.f3, .float .f32 p.f4, .bool op, .float .f32 p.x1, .float .f32 p.x2, .float .f32 p.x3]] w (RetV (.tuple #[.bool false, .int .i64 1]) w) := by
  have H1 := Lib.hid h1
  have H2 := Lib.hid h2
  have H3 := Lib.hid h3
  have HV : Hid (∀ W b, Below w.heap.size w W → PBox W b a1 n1 c1 a2 n2 c2 a3 n3 c3 p → b < W.heap.size → Calls Try.prog 45 #[.pointer (some ⟨b, 0, none⟩)] W (RetV (.bool false) W)) := fun W b hW hp hb => hv ▸ c_l04Ok b a1 n1 c1 rs1 a2 n2 c2 rs2 a3 n3 c3 xs3 p W hp hb (H1.out.below hW (Nat.le_refl _)) (H2.out.below hW (Nat.le_refl _)) (H3.out.below hW (Nat.le_refl _))
  clear h1 h2 h3 hv
  go_enter Try.func31, Try.ntmps31
  go_wp2_with fail
  refine (HV.out _ _ (by (repeat (first | (with_reducible refine Below.drewN ?_) | (with_reducible refine Below.drew ?_) | ((with_reducible refine Below.alloc ?_ ?_ _); rotate_left; (first | omega | (simp <;> omega))) | ((with_reducible refine Below.setCell ?_ ?_ _); rotate_left; (first | omega | (simp <;> omega))) | (with_reducible exact Below.refl _ _) | (with_reducible assumption)))) (PBox.new ..) (by simp)).mono ?_
  rintro e w1 ⟨rfl, hb1⟩
  obtain ⟨hc1, hf1, hz1⟩ := bcell hb1
  try simp at hz1
  have zb1 : w.heap.size ≤ w1.heap.size := by omega
  try (have z1_0 : w.heap.size < w1.heap.size := by omega)
  try (have z1_1 : w.heap.size + 1 < w1.heap.size := by omega)
  try (have z1_2 : w.heap.size + 1 + 1 < w1.heap.size := by omega)
  try (have z1_3 : w.heap.size + 1 + 1 + 1 < w1.heap.size := by omega)
  have b1 : Below w.heap.size w w1 := Below.trans (by (repeat (first | (with_reducible refine Below.drewN ?_) | (with_reducible refine Below.drew ?_) | ((with_reducible refine Below.alloc ?_ ?_ _); rotate_left; (first | omega | (simp <;> omega))) | ((with_reducible refine Below.setCell ?_ ?_ _); rotate_left; (first | omega | (simp <;> omega))) | (with_reducible exact Below.refl _ _) | (with_reducible assumption)))) (hb1.mono (by first | omega | (simp <;> omega)))
  go_wp2
  refine bodyPost_ret (v := ?v) (by simp [results, Try.results31, go_sem, *] <;> rfl) rfl ?_
  exact ⟨rfl, by (repeat (first | (with_reducible refine Below.drewN ?_) | (with_reducible refine Below.drew ?_) | ((with_reducible refine Below.alloc ?_ ?_ _); rotate_left; (first | omega | (simp <;> omega))) | ((with_reducible refine Below.setCell ?_ ?_ _); rotate_left; (first | omega | (simp <;> omega))) | (with_reducible exact Below.refl _ _) | (with_reducible assumption)))⟩
set_option maxRecDepth 100000 in
set_option maxHeartbeats 2000000 in
theorem c_IsSilentPipe_no (a1 : Option Addr) (n1 c1 : Nat) (rs1 : List Rg) (a2 : Option Addr) (n2 c2 : Nat) (rs2 : List Rg) (a3 : Option Addr) (n3 c3 : Nat) (xs3 : List Nat) (p : Pn) (op : Bool) (w : World) (h1 : RS w a1 n1 c1 rs1) (h2 : RS w a2 n2 c2 rs2) (h3 : FS w a3 n3 c3 xs3) (hv : pipeB n1 rs1 n2 rs2 n3 xs3 p = false) :
    Calls Try.prog 32 #[.agg #[.slice a1 n1 c1, .slice a2 n2 c2, .slice a3 n3 c3, .int .i64 p.k, .float .f32 p.f0, .float .f32 p.f1, .float .f32 p.f2, .float .f32 p.f3, .float .f32 p.f4, .bool op, .float .f32 p.x1, .float .f32 p.x2, .float .f32 p.x3]] w (RetV (.tuple #[.bool false, .int .i64 1]) w) := by
  have H1 := Lib.hid h1
  have H2 := Lib.hid h2
  have H3 := Lib.hid h3
  have HV : Hid (∀ W, Below w.heap.size w W → Calls Try.prog 16 #[.agg #[.slice a1 n1 c1, .slice a2 n2 c2, .slice a3 n3 c3, .int .i64 p.k, .float .f32 p.f0, .float .f32 p.f1, .float .f32 p.f2, .float .f32 p.f3, .float .f32 p.f4, .bool op, .float .f32 p.x1, .float .f32 p.x2, .float .f32 p.x3]] W (RetV (.bool false) W)) := fun W hW => hv ▸ c_ValidPipe a1 n1 c1 rs1 a2 n2 c2 rs2 a3 n3 c3 xs3 p op W (H1.out.below hW (Nat.le_refl _)) (H2.out.below hW (Nat.le_refl _)) (H3.out.below hW (Nat.le_refl _))
  clear h1 h2 h3 hv
  go_enter Try.func32, Try.ntmps32
  go_wp2_with fail
  refine (HV.out _ (by (repeat (first | (with_reducible refine Below.drewN ?_) | (with_reducible refine Below.drew ?_) | ((with_reducible refine Below.alloc ?_ ?_ _); rotate_left; (first | omega | (simp <;> omega))) | ((with_reducible refine Below.setCell ?_ ?_ _); rotate_left; (first | omega | (simp <;> omega))) | (with_reducible exact Below.refl _ _) | (with_reducible assumption))))).mono ?_
  rintro e w1 ⟨rfl, hb1⟩
  obtain ⟨hc1, hf1, hz1⟩ := bcell hb1
  try simp at hz1
  have zb1 : w.heap.size ≤ w1.heap.size := by omega
  try (have z1_0 : w.heap.size < w1.heap.size := by omega)
  try (have z1_1 : w.heap.size + 1 < w1.heap.size := by omega)
  try (have z1_2 : w.heap.size + 1 + 1 < w1.heap.size := by omega)
  try (have z1_3 : w.heap.size + 1 + 1 + 1 < w1.heap.size := by omega)
  have b1 : Below w.heap.size w w1 := Below.trans (by (repeat (first | (with_reducible refine Below.drewN ?_) | (with_reducible refine Below.drew ?_) | ((with_reducible refine Below.alloc ?_ ?_ _); rotate_left; (first | omega | (simp <;> omega))) | ((with_reducible refine Below.setCell ?_ ?_ _); rotate_left; (first | omega | (simp <;> omega))) | (with_reducible exact Below.refl _ _) | (with_reducible assumption)))) (hb1.mono (by first | omega | (simp <;> omega)))
  go_wp2
  refine bodyPost_ret (v := ?v) (by simp [results, Try.results32, go_sem, *] <;> rfl) rfl ?_
  exact ⟨rfl, by (repeat (first | (with_reducible refine Below.drewN ?_) | (with_reducible refine Below.drew ?_) | ((with_reducible refine Below.alloc ?_ ?_ _); rotate_left; (first | omega | (simp <;> omega))) | ((with_reducible refine Below.setCell ?_ ?_ _); rotate_left; (first | omega | (simp <;> omega))) | (with_reducible exact Below.refl _ _) | (with_reducible assumption)))⟩
set_option maxRecDepth 100000 in
set_option maxHeartbeats 2000000 in
theorem c_sIsSilentPipe_ok (a1 : Option Addr) (n1 c1 : Nat) (rs1 : List Rg) (a2 : Option Addr) (n2 c2 : Nat) (rs2 : List Rg) (a3 : Option Addr) (n3 c3 : Nat) (xs3 : List Nat) (p : Pn) (op : Bool) (w : World) (h1 : RS w a1 n1 c1 rs1) (h2 : RS w a2 n2 c2 rs2) (h3 : FS w a3 n3 c3 xs3) (hv : pipeB n1 rs1 n2 rs2 n3 xs3 p = true) :
    Calls Try.prog 31 #[.agg #[.slice a1 n1 c1, .slice a2 n2 c2, .slice a3 n3 c3, .int .i64 p.k, .float .f32 p.f0, .float .f32 p.f1, .float .f32 p.f2, .float .f32 p.f3, .float .f32 p.f4, .bool op, .float .f32 p.x1, .float .f32 p.x2, .float .f32 p.x3]] w (RetV (.tuple #[.bool (rgsZero rs1 n1 && (rgsZero rs2 n2 && stillB p.f3 p.f4)), .int .i64 0]) w) := by
  have H1 := Lib.hid h1
  have H2 := Lib.hid h2
  have H3 := Lib.hid h3
  have HV : Hid (∀ W b, Below w.heap.size w W → PBox W b a1 n1 c1 a2 n2 c2 a3 n3 c3 p → b < W.heap.size → Calls Try.prog 45 #[.pointer (some ⟨b, 0, none⟩)] W (RetV (.bool true) W)) := fun W b hW hp hb => hv ▸ c_l04Ok b a1 n1 c1 rs1 a2 n2 c2 rs2 a3 n3 c3 xs3 p W hp hb (H1.out.below hW (Nat.le_refl _)) (H2.out.below hW (Nat.le_refl _)) (H3.out.below hW (Nat.le_refl _))
  have HO := Lib.hid (pipeB_yes hv)
  have q1 := HO.out.lo
  have q2 := HO.out.hi
  have q3 := HO.out.eq
  have HS : Hid (∀ W b, Below w.heap.size w W → PBox W b a1 n1 c1 a2 n2 c2 a3 n3 c3 p → Calls Try.prog 91 #[.pointer (some ⟨b, 0, none⟩)] W (RetV (.bool (rgsZero rs1 n1 && (rgsZero rs2 n2 && stillB p.f3 p.f4))) W)) := fun W b hW hp => c_l04Silent b a1 n1 c1 rs1 a2 n2 c2 rs2 a3 n3 c3 p W hp (H1.out.below hW (Nat.le_refl _)) (H2.out.below hW (Nat.le_refl _)) (by omega) (by omega) (by omega) (by omega)
  clear h1 h2 h3 hv q1 q2 q3
  go_enter Try.func31, Try.ntmps31
  go_wp2_with fail
  refine (HV.out _ _ (by (repeat (first | (with_reducible refine Below.drewN ?_) | (with_reducible refine Below.drew ?_) | ((with_reducible refine Below.alloc ?_ ?_ _); rotate_left; (first | omega | (simp <;> omega))) | ((with_reducible refine Below.setCell ?_ ?_ _); rotate_left; (first | omega | (simp <;> omega))) | (with_reducible exact Below.refl _ _) | (with_reducible assumption)))) (PBox.new ..) (by simp)).mono ?_
  rintro e w1 ⟨rfl, hb1⟩
  have PB := Lib.hid (PBox.below (PBox.new w a1 n1 c1 a2 n2 c2 a3 n3 c3 p op _) hb1 (by simp))
  obtain ⟨hc1, hf1, hz1⟩ := bcell hb1
  try simp at hz1
  have zb1 : w.heap.size ≤ w1.heap.size := by omega
  try (have z1_0 : w.heap.size < w1.heap.size := by omega)
  try (have z1_1 : w.heap.size + 1 < w1.heap.size := by omega)
  try (have z1_2 : w.heap.size + 1 + 1 < w1.heap.size := by omega)
  try (have z1_3 : w.heap.size + 1 + 1 + 1 < w1.heap.size := by omega)
  have b1 : Below w.heap.size w w1 := Below.trans (by (repeat (first | (with_reducible refine Below.drewN ?_) | (with_reducible refine Below.drew ?_) | ((with_reducible refine Below.alloc ?_ ?_ _); rotate_left; (first | omega | (simp <;> omega))) | ((with_reducible refine Below.setCell ?_ ?_ _); rotate_left; (first | omega | (simp <;> omega))) | (with_reducible exact Below.refl _ _) | (with_reducible assumption)))) (hb1.mono (by first | omega | (simp <;> omega)))
  go_wp2_with fail
  refine (HS.out _ _ (by (repeat (first | (with_reducible refine Below.drewN ?_) | (with_reducible refine Below.drew ?_) | ((with_reducible refine Below.alloc ?_ ?_ _); rotate_left; (first | omega | (simp <;> omega))) | ((with_reducible refine Below.setCell ?_ ?_ _); rotate_left; (first | omega | (simp <;> omega))) | (with_reducible exact Below.refl _ _) | (with_reducible assumption)))) PB.out).mono ?_
  rintro e w2 ⟨rfl, hb2⟩
  go_wp2
  refine bodyPost_ret (v := ?v) (by simp [results, Try.results31, go_sem, *] <;> rfl) rfl ?_
  exact ⟨rfl, b1.trans (hb2.mono b1.size)⟩
set_option maxRecDepth 100000 in
set_option maxHeartbeats 2000000 in
theorem c_IsSilentPipe_ok (a1 : Option Addr) (n1 c1 : Nat) (rs1 : List Rg) (a2 : Option Addr) (n2 c2 : Nat) (rs2 : List Rg) (a3 : Option Addr) (n3 c3 : Nat) (xs3 : List Nat) (p : Pn) (op : Bool) (w : World) (h1 : RS w a1 n1 c1 rs1) (h2 : RS w a2 n2 c2 rs2) (h3 : FS w a3 n3 c3 xs3) (hv : pipeB n1 rs1 n2 rs2 n3 xs3 p = true) :
    Calls Try.prog 32 #[.agg #[.slice a1 n1 c1, .slice a2 n2 c2, .slice a3 n3 c3, .int .i64 p.k, .float .f32 p.f0, .float .f32 p.f1, .float .f32 p.f2, .float .f32 p.f3, .float .f32 p.f4, .bool op, .float .f32 p.x1, .float .f32 p.x2, .float .f32 p.x3]] w (RetV (.tuple #[.bool (rgsZero rs1 n1 && (rgsZero rs2 n2 && stillB p.f3 p.f4)), .int .i64 0]) w) := by
  have H1 := Lib.hid h1
  have H2 := Lib.hid h2
  have H3 := Lib.hid h3
  have HV : Hid (∀ W, Below w.heap.size w W → Calls Try.prog 16 #[.agg #[.slice a1 n1 c1, .slice a2 n2 c2, .slice a3 n3 c3, .int .i64 p.k, .float .f32 p.f0, .float .f32 p.f1, .float .f32 p.f2, .float .f32 p.f3, .float .f32 p.f4, .bool op, .float .f32 p.x1, .float .f32 p.x2, .float .f32 p.x3]] W (RetV (.bool true) W)) := fun W hW => hv ▸ c_ValidPipe a1 n1 c1 rs1 a2 n2 c2 rs2 a3 n3 c3 xs3 p op W (H1.out.below hW (Nat.le_refl _)) (H2.out.below hW (Nat.le_refl _)) (H3.out.below hW (Nat.le_refl _))
  have HO := Lib.hid (pipeB_yes hv)
  have q1 := HO.out.lo
  have q2 := HO.out.hi
  obtain rfl : n2 = n1 := HO.out.eq
  have HS : Hid (∀ W, Calls Try.prog 93 #[.agg #[.int .i64 p.k, .float .f32 p.f0, .float .f32 p.f1, .float .f32 p.f2, .float .f32 p.f3, .float .f32 p.f4]] W (RetV (.bool (stillB p.f3 p.f4)) W)) := fun W => c_isStill _ _ _ _ _ _ W
  have HZ := Lib.hid (rgsZero_inter rs1 rs2 n2)
  clear h1 h2 h3 hv
  rw [show (rgsZero rs1 n2 && (rgsZero rs2 n2 && stillB p.f3 p.f4)) = (rgsZero (inter rs1 rs2 n2) (2 * n2) && stillB p.f3 p.f4) by rw [HZ.out, Bool.and_assoc]]
  cases z : rgsZero (inter rs1 rs2 n2) (2 * n2)
  all_goals
    go_enter Try.func32, Try.ntmps32
    go_wp2_with fail
    refine (HV.out _ (by (repeat (first | (with_reducible refine Below.drewN ?_) | (with_reducible refine Below.drew ?_) | ((with_reducible refine Below.alloc ?_ ?_ _); rotate_left; (first | omega | (simp <;> omega))) | ((with_reducible refine Below.setCell ?_ ?_ _); rotate_left; (first | omega | (simp <;> omega))) | (with_reducible exact Below.refl _ _) | (with_reducible assumption))))).mono ?_
    rintro e w1 ⟨rfl, hb1⟩
    obtain ⟨hc1, hf1, hz1⟩ := bcell hb1
    try simp at hz1
    have zb1 : w.heap.size ≤ w1.heap.size := by omega
    try (have z1_0 : w.heap.size < w1.heap.size := by omega)
    try (have z1_1 : w.heap.size + 1 < w1.heap.size := by omega)
    try (have z1_2 : w.heap.size + 1 + 1 < w1.heap.size := by omega)
    try (have z1_3 : w.heap.size + 1 + 1 + 1 < w1.heap.size := by omega)
    have b1 : Below w.heap.size w w1 := Below.trans (by (repeat (first | (with_reducible refine Below.drewN ?_) | (with_reducible refine Below.drew ?_) | ((with_reducible refine Below.alloc ?_ ?_ _); rotate_left; (first | omega | (simp <;> omega))) | ((with_reducible refine Below.setCell ?_ ?_ _); rotate_left; (first | omega | (simp <;> omega))) | (with_reducible exact Below.refl _ _) | (with_reducible assumption)))) (hb1.mono (by first | omega | (simp <;> omega)))
    go_wp2_with fail
    refine (c_ringsP w.heap.size a1 a2 c1 c2 n2 rs1 rs2 _ (by simp [go_sem, *]) (by simp [go_sem, *]) (by first | omega | simp) (RS.below (B := w.heap.size) H1.out (by (repeat (first | (with_reducible refine Below.drewN ?_) | (with_reducible refine Below.drew ?_) | ((with_reducible refine Below.alloc ?_ ?_ _); rotate_left; (first | omega | (simp <;> omega))) | ((with_reducible refine Below.setCell ?_ ?_ _); rotate_left; (first | omega | (simp <;> omega))) | (with_reducible exact Below.refl _ _) | (with_reducible assumption)))) (Nat.le_refl _)) (RS.below (B := w.heap.size) H2.out (by (repeat (first | (with_reducible refine Below.drewN ?_) | (with_reducible refine Below.drew ?_) | ((with_reducible refine Below.alloc ?_ ?_ _); rotate_left; (first | omega | (simp <;> omega))) | ((with_reducible refine Below.setCell ?_ ?_ _); rotate_left; (first | omega | (simp <;> omega))) | (with_reducible exact Below.refl _ _) | (with_reducible assumption)))) (Nat.le_refl _)) q1 (by omega)).mono ?_
    rintro e w2 ⟨g, cg, rfl, hb2, hp2⟩
    have hc2 := (bcell hb2).1
    have zb2 : w.heap.size < w2.heap.size := Nat.lt_of_lt_of_le z1_0 hb2.size
    have b2 : Below w.heap.size w w2 := b1.trans (hb2.mono b1.size)
    have HP := Lib.hid hp2
    clear hp2
    go_wp2_with fail
    refine (c_areQuiet g _ cg _ _ HP.out (fun j hj => ok_ring (inter_ok HO.out.r1 HO.out.r2 j hj))).mono ?_
    rw [z]
    rintro e w3 ⟨rfl, hb3⟩
    have hc3 := (bcell hb3).1
    have zb3 : w.heap.size < w3.heap.size := Nat.lt_of_lt_of_le zb2 hb3.size
    have b3 : Below w.heap.size w w3 := b2.trans (hb3.mono b2.size)
    clear z
  · go_wp2
    refine bodyPost_ret (v := ?v) (by simp [results, Try.results32, go_sem, *] <;> rfl) rfl ?_
    exact ⟨rfl, b3⟩
  · go_wp2_with fail
    refine (HS.out _).mono ?_
    rintro e w4 ⟨rfl, hb4⟩
    go_wp2
    refine bodyPost_ret (v := ?v2) (by simp [results, Try.results32, go_sem, *] <;> rfl) rfl ?_
    exact ⟨rfl, b3.trans (hb4.mono b3.size)⟩
theorem rgsZero_same {rs ss : List Rg} {n : Nat} (h : sameC rs ss n) : ∀ k, k ≤ n → rgsZero ss k = rgsZero rs k
  | 0, _ => rfl
  | k + 1, hk => by rw [rgsZero, rgsZero, rgsZero_same h k (by omega), (h k (by omega)).1, (h k (by omega)).2.1]
theorem k_IsSilentPipe (a1 : Option Addr) (n1 c1 : Nat) (rs1 : List Rg) (a2 : Option Addr) (n2 c2 : Nat) (rs2 : List Rg) (a3 : Option Addr) (n3 c3 : Nat) (xs3 : List Nat) (k : Int) (f0 f1 f2 f3 f4 : Nat) (op : Bool) (x1 x2 x3 : Nat) (w : World) (h1 : RS w a1 n1 c1 rs1) (h2 : RS w a2 n2 c2 rs2) (h3 : FS w a3 n3 c3 xs3) :
    Calls Try.prog 8 #[.agg #[.slice a1 n1 c1, .slice a2 n2 c2, .slice a3 n3 c3, .int .i64 k, .float .f32 f0, .float .f32 f1, .float .f32 f2, .float .f32 f3, .float .f32 f4, .bool op, .float .f32 x1, .float .f32 x2, .float .f32 x3]] w (RetV (.bool true) w) := by
  cases hv : pipeB n1 rs1 n2 rs2 n3 xs3 ⟨k, f0, f1, f2, f3, f4, x1, x2, x3⟩
  · exact l_IsSilentPipe a1 n1 c1 rs1 a2 n2 c2 rs2 a3 n3 c3 xs3 k f0 f1 f2 f3 f4 op x1 x2 x3 false 1 w h1 h2 h3
      (fun W d1 d2 d3 e1 e2 e3 ss1 ss2 r1 r2 r3 s1 s2 => c_sIsSilentPipe_no d1 n1 e1 ss1 d2 n2 e2 ss2 d3 n3 e3 xs3 ⟨k, f0, f1, f2, f3, f4, x1, x2, x3⟩ op W r1 r2 r3 (by rw [pipeB_same s1 s2]; exact hv))
      (fun W d1 d2 d3 e1 e2 e3 ss1 ss2 r1 r2 r3 s1 s2 => c_IsSilentPipe_no d1 n1 e1 ss1 d2 n2 e2 ss2 d3 n3 e3 xs3 ⟨k, f0, f1, f2, f3, f4, x1, x2, x3⟩ op W r1 r2 r3 (by rw [pipeB_same s1 s2]; exact hv))
  · have HO := pipeB_yes hv
    exact l_IsSilentPipe a1 n1 c1 rs1 a2 n2 c2 rs2 a3 n3 c3 xs3 k f0 f1 f2 f3 f4 op x1 x2 x3 (rgsZero rs1 n1 && (rgsZero rs2 n2 && stillB f3 f4)) 0 w h1 h2 h3
      (fun W d1 d2 d3 e1 e2 e3 ss1 ss2 r1 r2 r3 s1 s2 => by rw [← rgsZero_same s1 _ (Nat.le_refl _), ← rgsZero_same s2 _ (Nat.le_refl _)]; exact c_sIsSilentPipe_ok d1 n1 e1 ss1 d2 n2 e2 ss2 d3 n3 e3 xs3 ⟨k, f0, f1, f2, f3, f4, x1, x2, x3⟩ op W r1 r2 r3 (by rw [pipeB_same s1 s2]; exact hv))
      (fun W d1 d2 d3 e1 e2 e3 ss1 ss2 r1 r2 r3 s1 s2 => by rw [← rgsZero_same s1 _ (Nat.le_refl _), ← rgsZero_same s2 _ (Nat.le_refl _)]; exact c_IsSilentPipe_ok d1 n1 e1 ss1 d2 n2 e2 ss2 d3 n3 e3 xs3 ⟨k, f0, f1, f2, f3, f4, x1, x2, x3⟩ op W r1 r2 r3 (by rw [pipeB_same s1 s2]; exact hv))
end Go.Proofs.Ytfhegjjgfaeinaa
