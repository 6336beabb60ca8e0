
/-
The length of a pipe.
-/
import Derived.Test.YtfhegjjgfaeinaaPr
import Derived.Test.YtfhegjjgfaeinaaWLengthOfPipe
namespace Go.Proofs.Ytfhegjjgfaeinaa
open Go Go.RowKit Fl
set_option maxRecDepth 100000 in
set_option maxHeartbeats 4000000 in
theorem c_sLengthOfPipe_no (a1 : Option Addr) (n1 c1 : Nat) (rs1 : List Rg) (a2 : Option Addr) (n2 c2 : Nat) (rs2 : List Rg) (a3 : Option Addr) (n3 c3 : Nat) (xs3 : List Nat) (p : Pn) (op : Bool) (w : World) (h1 : RS w a1 n1 c1 rs1) (h2 : RS w a2 n2 c2 rs2) (h3 : FS w a3 n3 c3 xs3) (hv : pipeB n1 rs1 n2 rs2 n3 xs3 p = false) :
    Calls Try.prog 24 #[.agg #[.slice a1 n1 c1, .slice a2 n2 c2, .slice a3 n3 c3, .int .i64 p.k, .float .f32 p.f0, .float .f32 p.f1, .float .f32 p.f2, .float .f32 p.f3, .float .f32 p.f4, .bool op, .float .f32 p.x1, .float .f32 p.x2, .float .f32 p.x3]] w (RetV (.tuple #[.int .i64 0, .int .i64 1]) w) := by
  have H1 := Lib.hid h1
  have H2 := Lib.hid h2
  have H3 := Lib.hid h3
  have HV : Hid (∀ W b, Below w.heap.size w W → PBox W b a1 n1 c1 a2 n2 c2 a3 n3 c3 p → b < W.heap.size → Calls Try.prog 45 #[.pointer (some ⟨b, 0, none⟩)] W (RetV (.bool false) W)) := fun W b hW hp hb => hv ▸ c_l04Ok b a1 n1 c1 rs1 a2 n2 c2 rs2 a3 n3 c3 xs3 p W hp hb (H1.out.below hW (Nat.le_refl _)) (H2.out.below hW (Nat.le_refl _)) (H3.out.below hW (Nat.le_refl _))
  clear h1 h2 h3 hv
  go_enter Try.func24, Try.ntmps24
  go_wp2_with fail
  refine (HV.out _ _ (by (repeat (first | (with_reducible refine Below.drewN ?_) | (with_reducible refine Below.drew ?_) | ((with_reducible refine Below.alloc ?_ ?_ _); rotate_left; (first | omega | (simp <;> omega))) | ((with_reducible refine Below.setCell ?_ ?_ _); rotate_left; (first | omega | (simp <;> omega))) | (with_reducible exact Below.refl _ _) | (with_reducible assumption)))) (PBox.new ..) (by simp)).mono ?_
  rintro e w1 ⟨rfl, hb1⟩
  obtain ⟨hc1, hf1, hz1⟩ := bcell hb1
  try simp at hz1
  have zb1 : w.heap.size ≤ w1.heap.size := by omega
  try (have z1_0 : w.heap.size < w1.heap.size := by omega)
  try (have z1_1 : w.heap.size + 1 < w1.heap.size := by omega)
  try (have z1_2 : w.heap.size + 1 + 1 < w1.heap.size := by omega)
  try (have z1_3 : w.heap.size + 1 + 1 + 1 < w1.heap.size := by omega)
  have b1 : Below w.heap.size w w1 := Below.trans (by (repeat (first | (with_reducible refine Below.drewN ?_) | (with_reducible refine Below.drew ?_) | ((with_reducible refine Below.alloc ?_ ?_ _); rotate_left; (first | omega | (simp <;> omega))) | ((with_reducible refine Below.setCell ?_ ?_ _); rotate_left; (first | omega | (simp <;> omega))) | (with_reducible exact Below.refl _ _) | (with_reducible assumption)))) (hb1.mono (by first | omega | (simp <;> omega)))
  go_wp2
  refine bodyPost_ret (v := ?v) (by simp [results, Try.results24, go_sem, *] <;> rfl) rfl ?_
  exact ⟨rfl, by (repeat (first | (with_reducible refine Below.drewN ?_) | (with_reducible refine Below.drew ?_) | ((with_reducible refine Below.alloc ?_ ?_ _); rotate_left; (first | omega | (simp <;> omega))) | ((with_reducible refine Below.setCell ?_ ?_ _); rotate_left; (first | omega | (simp <;> omega))) | (with_reducible exact Below.refl _ _) | (with_reducible assumption)))⟩
set_option maxRecDepth 100000 in
set_option maxHeartbeats 4000000 in
theorem c_LengthOfPipe_no (a1 : Option Addr) (n1 c1 : Nat) (rs1 : List Rg) (a2 : Option Addr) (n2 c2 : Nat) (rs2 : List Rg) (a3 : Option Addr) (n3 c3 : Nat) (xs3 : List Nat) (p : Pn) (op : Bool) (w : World) (h1 : RS w a1 n1 c1 rs1) (h2 : RS w a2 n2 c2 rs2) (h3 : FS w a3 n3 c3 xs3) (hv : pipeB n1 rs1 n2 rs2 n3 xs3 p = false) :
    Calls Try.prog 25 #[.agg #[.slice a1 n1 c1, .slice a2 n2 c2, .slice a3 n3 c3, .int .i64 p.k, .float .f32 p.f0, .float .f32 p.f1, .float .f32 p.f2, .float .f32 p.f3, .float .f32 p.f4, .bool op, .float .f32 p.x1, .float .f32 p.x2, .float .f32 p.x3]] w (RetV (.tuple #[.int .i64 0, .int .i64 1]) w) := by
  have H1 := Lib.hid h1
  have H2 := Lib.hid h2
  have H3 := Lib.hid h3
  have HV : Hid (∀ W, Below w.heap.size w W → Calls Try.prog 16 #[.agg #[.slice a1 n1 c1, .slice a2 n2 c2, .slice a3 n3 c3, .int .i64 p.k, .float .f32 p.f0, .float .f32 p.f1, .float .f32 p.f2, .float .f32 p.f3, .float .f32 p.f4, .bool op, .float .f32 p.x1, .float .f32 p.x2, .float .f32 p.x3]] W (RetV (.bool false) W)) := fun W hW => hv ▸ c_ValidPipe a1 n1 c1 rs1 a2 n2 c2 rs2 a3 n3 c3 xs3 p op W (H1.out.below hW (Nat.le_refl _)) (H2.out.below hW (Nat.le_refl _)) (H3.out.below hW (Nat.le_refl _))
  clear h1 h2 h3 hv
  go_enter Try.func25, Try.ntmps25
  go_wp2_with fail
  refine (HV.out _ (by (repeat (first | (with_reducible refine Below.drewN ?_) | (with_reducible refine Below.drew ?_) | ((with_reducible refine Below.alloc ?_ ?_ _); rotate_left; (first | omega | (simp <;> omega))) | ((with_reducible refine Below.setCell ?_ ?_ _); rotate_left; (first | omega | (simp <;> omega))) | (with_reducible exact Below.refl _ _) | (with_reducible assumption))))).mono ?_
  rintro e w1 ⟨rfl, hb1⟩
  obtain ⟨hc1, hf1, hz1⟩ := bcell hb1
  try simp at hz1
  have zb1 : w.heap.size ≤ w1.heap.size := by omega
  try (have z1_0 : w.heap.size < w1.heap.size := by omega)
  try (have z1_1 : w.heap.size + 1 < w1.heap.size := by omega)
  try (have z1_2 : w.heap.size + 1 + 1 < w1.heap.size := by omega)
  try (have z1_3 : w.heap.size + 1 + 1 + 1 < w1.heap.size := by omega)
  have b1 : Below w.heap.size w w1 := Below.trans (by (repeat (first | (with_reducible refine Below.drewN ?_) | (with_reducible refine Below.drew ?_) | ((with_reducible refine Below.alloc ?_ ?_ _); rotate_left; (first | omega | (simp <;> omega))) | ((with_reducible refine Below.setCell ?_ ?_ _); rotate_left; (first | omega | (simp <;> omega))) | (with_reducible exact Below.refl _ _) | (with_reducible assumption)))) (hb1.mono (by first | omega | (simp <;> omega)))
  go_wp2
  refine bodyPost_ret (v := ?v) (by simp [results, Try.results25, go_sem, *] <;> rfl) rfl ?_
  exact ⟨rfl, by (repeat (first | (with_reducible refine Below.drewN ?_) | (with_reducible refine Below.drew ?_) | ((with_reducible refine Below.alloc ?_ ?_ _); rotate_left; (first | omega | (simp <;> omega))) | ((with_reducible refine Below.setCell ?_ ?_ _); rotate_left; (first | omega | (simp <;> omega))) | (with_reducible exact Below.refl _ _) | (with_reducible assumption)))⟩
theorem ok_n {r : Rg} (h : r.ok = true) : 1 ≤ r.n ∧ r.n ≤ 1024 ∧ 0 ≤ r.i ∧ r.i < r.n := by
  have h := ok_ring h
  unfold ringB at h
  rw [Bool.and_eq_true] at h
  have h1 := inB_yes h.1
  have h2 := inB_yes h.2
  omega
theorem rgSum_le {rs : List Rg} {n : Nat} (h : ∀ j, j < n → (rat rs j).ok = true) : ∀ k, k ≤ n → rgSum rs k ≤ 1024 * k
  | 0, _ => Nat.le_refl _
  | k + 1, hk => by
    have := rgSum_le h k (by omega)
    have := (ok_n (h k (by omega))).2.1
    rw [rgSum]; omega
theorem rgSum_eq {rs ss : List Rg} {n : Nat} (h : ∀ j, j < n → (rat rs j).n = (rat ss j).n) : ∀ k, k ≤ n → rgSum rs k = rgSum ss k
  | 0, _ => rfl
  | k + 1, hk => by rw [rgSum, rgSum, rgSum_eq h k (by omega), h k (by omega)]
theorem rgSum_same {rs ss : List Rg} {n : Nat} (h : sameC rs ss n) : ∀ k, k ≤ n → rgSum ss k = rgSum rs k
  | 0, _ => rfl
  | k + 1, hk => by rw [rgSum, rgSum, rgSum_same h k (by omega), (h k (by omega)).1]
set_option maxRecDepth 100000 in
set_option maxHeartbeats 4000000 in
theorem c_sLengthOfPipe_ok (a1 : Option Addr) (n1 c1 : Nat) (rs1 : List Rg) (a2 : Option Addr) (n2 c2 : Nat) (rs2 : List Rg) (a3 : Option Addr) (n3 c3 : Nat) (xs3 : List Nat) (p : Pn) (op : Bool) (w : World) (h1 : RS w a1 n1 c1 rs1) (h2 : RS w a2 n2 c2 rs2) (h3 : FS w a3 n3 c3 xs3) (hv : pipeB n1 rs1 n2 rs2 n3 xs3 p = true) :
    Calls Try.prog 24 #[.agg #[.slice a1 n1 c1, .slice a2 n2 c2, .slice a3 n3 c3, .int .i64 p.k, .float .f32 p.f0, .float .f32 p.f1, .float .f32 p.f2, .float .f32 p.f3, .float .f32 p.f4, .bool op, .float .f32 p.x1, .float .f32 p.x2, .float .f32 p.x3]] w (RetV (.tuple #[.int .i64 (2 * (rgSum rs1 n1 : Int)), .int .i64 0]) w) := by
  have H1 := Lib.hid h1
  have H2 := Lib.hid h2
  have H3 := Lib.hid h3
  have HV : Hid (∀ W b, Below w.heap.size w W → PBox W b a1 n1 c1 a2 n2 c2 a3 n3 c3 p → b < W.heap.size → Calls Try.prog 45 #[.pointer (some ⟨b, 0, none⟩)] W (RetV (.bool true) W)) := fun W b hW hp hb => hv ▸ c_l04Ok b a1 n1 c1 rs1 a2 n2 c2 rs2 a3 n3 c3 xs3 p W hp hb (H1.out.below hW (Nat.le_refl _)) (H2.out.below hW (Nat.le_refl _)) (H3.out.below hW (Nat.le_refl _))
  have HO := Lib.hid (pipeB_yes hv)
  have q1 := HO.out.lo
  have q2 := HO.out.hi
  have QS := Lib.hid (fun k hk => rgSum_le HO.out.r1 k hk)
  obtain ⟨bb1, o1, rfl, hbl1, hcell1⟩ := h1.at_ q1
  have C1 := Lib.hid hcell1
  clear hcell1 h1 h2 h3 hv
  go_enter Try.func24, Try.ntmps24
  go_wp2_with fail
  refine (HV.out _ _ (by (repeat (first | (with_reducible refine Below.drewN ?_) | (with_reducible refine Below.drew ?_) | ((with_reducible refine Below.alloc ?_ ?_ _); rotate_left; (first | omega | (simp <;> omega))) | ((with_reducible refine Below.setCell ?_ ?_ _); rotate_left; (first | omega | (simp <;> omega))) | (with_reducible exact Below.refl _ _) | (with_reducible assumption)))) (PBox.new ..) (by simp)).mono ?_
  rintro e w1 ⟨rfl, hb1⟩
  have PB := Lib.hid (PBox.below (PBox.new w (some ⟨bb1, o1, none⟩) n1 c1 a2 n2 c2 a3 n3 c3 p op _) hb1 (by simp))
  obtain ⟨hc1, hf1, hz1⟩ := bcell hb1
  try simp at hz1
  have zb1 : w.heap.size ≤ w1.heap.size := by omega
  try (have z1_0 : w.heap.size < w1.heap.size := by omega)
  try (have z1_1 : w.heap.size + 1 < w1.heap.size := by omega)
  try (have z1_2 : w.heap.size + 1 + 1 < w1.heap.size := by omega)
  try (have z1_3 : w.heap.size + 1 + 1 + 1 < w1.heap.size := by omega)
  have b1 : Below w.heap.size w w1 := Below.trans (by (repeat (first | (with_reducible refine Below.drewN ?_) | (with_reducible refine Below.drew ?_) | ((with_reducible refine Below.alloc ?_ ?_ _); rotate_left; (first | omega | (simp <;> omega))) | ((with_reducible refine Below.setCell ?_ ?_ _); rotate_left; (first | omega | (simp <;> omega))) | (with_reducible exact Below.refl _ _) | (with_reducible assumption)))) (hb1.mono (by first | omega | (simp <;> omega)))
  have y1 : bb1 < w1.heap.size := Nat.lt_of_lt_of_le hbl1 b1.size
  go_wp2
  have e0 := PB.out.e0
  clear hc1 hf1 hb1 PB
  go_loopw [4, 5] (fun s i wr => ∃ k : Nat, k ≤ n1 ∧ i = .int .i64 k ∧ s = .int .i64 (2 * (rgSum rs1 k : Int)) ∧ wr = w1) (fun _ i _ => n1 - (intOf i).toNat)
  case atStart => exact ⟨0, by omega, rfl, rfl, rfl⟩
  case round =>
    obtain ⟨k, hk, rfl, rfl, hwr⟩ := hrel
    subst hwr
    by_cases hlt : k < n1
    · have r := (C1.out k hlt).below b1 (Nat.le_refl _) hbl1
      have x0 := r.c0
      have hs := QS.out k (by omega)
      have hs' := (ok_n (HO.out.r1 k hlt)).2.1
      have HR : Hid (rgSum rs1 (k + 1) = rgSum rs1 k + (rat rs1 k).n) := rfl
      clear r
      go_wp2
      go_roundw
      case rel => exact ⟨k + 1, by omega, by go_num, by rw [HR.out]; congr 1 <;> (try omega), (by first | exact rfl | exact trivial)⟩
      case measure => simp [intOf]; omega
    · obtain rfl : n1 = k := by omega
      go_wp2
      refine bodyPost_ret (v := ?v) (by simp [results, Try.results24, go_sem, *] <;> rfl) rfl ?_
      exact ⟨rfl, b1⟩
set_option maxRecDepth 100000 in
set_option maxHeartbeats 4000000 in
theorem c_LengthOfPipe_ok (a1 : Option Addr) (n1 c1 : Nat) (rs1 : List Rg) (a2 : Option Addr) (n2 c2 : Nat) (rs2 : List Rg) (a3 : Option Addr) (n3 c3 : Nat) (xs3 : List Nat) (p : Pn) (op : Bool) (w : World) (h1 : RS w a1 n1 c1 rs1) (h2 : RS w a2 n2 c2 rs2) (h3 : FS w a3 n3 c3 xs3) (hv : pipeB n1 rs1 n2 rs2 n3 xs3 p = true) :
    Calls Try.prog 25 #[.agg #[.slice a1 n1 c1, .slice a2 n2 c2, .slice a3 n3 c3, .int .i64 p.k, .float .f32 p.f0, .float .f32 p.f1, .float .f32 p.f2, .float .f32 p.f3, .float .f32 p.f4, .bool op, .float .f32 p.x1, .float .f32 p.x2, .float .f32 p.x3]] w (RetV (.tuple #[.int .i64 (2 * (rgSum rs1 n1 : Int)), .int .i64 0]) w) := by
  have H1 := Lib.hid h1
  have H2 := Lib.hid h2
  have H3 := Lib.hid h3
  have HV : Hid (∀ W, Below w.heap.size w W → Calls Try.prog 16 #[.agg #[.slice a1 n1 c1, .slice a2 n2 c2, .slice a3 n3 c3, .int .i64 p.k, .float .f32 p.f0, .float .f32 p.f1, .float .f32 p.f2, .float .f32 p.f3, .float .f32 p.f4, .bool op, .float .f32 p.x1, .float .f32 p.x2, .float .f32 p.x3]] W (RetV (.bool true) W)) := fun W hW => hv ▸ c_ValidPipe a1 n1 c1 rs1 a2 n2 c2 rs2 a3 n3 c3 xs3 p op W (H1.out.below hW (Nat.le_refl _)) (H2.out.below hW (Nat.le_refl _)) (H3.out.below hW (Nat.le_refl _))
  have HO := Lib.hid (pipeB_yes hv)
  have q1 := HO.out.lo
  have q2 := HO.out.hi
  obtain rfl : n2 = n1 := HO.out.eq
  have HOK := Lib.hid (inter_ok HO.out.r1 HO.out.r2)
  have QS := Lib.hid (fun k hk => rgSum_le HOK.out k hk)
  have QE : Hid ((rgSum (inter rs1 rs2 n2) (2 * n2) : Int) = 2 * (rgSum rs1 n2 : Int)) := by
    show (rgSum (inter rs1 rs2 n2) (2 * n2) : Int) = _
    rw [rgSum_inter, ← rgSum_eq HO.out.len n2 (Nat.le_refl _)]; omega
  clear h1 h2 h3 hv
  rw [← QE.out]
  go_enter Try.func25, Try.ntmps25
  go_wp2_with fail
  refine (HV.out _ (by (repeat (first | (with_reducible refine Below.drewN ?_) | (with_reducible refine Below.drew ?_) | ((with_reducible refine Below.alloc ?_ ?_ _); rotate_left; (first | omega | (simp <;> omega))) | ((with_reducible refine Below.setCell ?_ ?_ _); rotate_left; (first | omega | (simp <;> omega))) | (with_reducible exact Below.refl _ _) | (with_reducible assumption))))).mono ?_
  rintro e w1 ⟨rfl, hb1⟩
  obtain ⟨hc1, hf1, hz1⟩ := bcell hb1
  try simp at hz1
  have zb1 : w.heap.size ≤ w1.heap.size := by omega
  try (have z1_0 : w.heap.size < w1.heap.size := by omega)
  try (have z1_1 : w.heap.size + 1 < w1.heap.size := by omega)
  try (have z1_2 : w.heap.size + 1 + 1 < w1.heap.size := by omega)
  try (have z1_3 : w.heap.size + 1 + 1 + 1 < w1.heap.size := by omega)
  have b1 : Below w.heap.size w w1 := Below.trans (by (repeat (first | (with_reducible refine Below.drewN ?_) | (with_reducible refine Below.drew ?_) | ((with_reducible refine Below.alloc ?_ ?_ _); rotate_left; (first | omega | (simp <;> omega))) | ((with_reducible refine Below.setCell ?_ ?_ _); rotate_left; (first | omega | (simp <;> omega))) | (with_reducible exact Below.refl _ _) | (with_reducible assumption)))) (hb1.mono (by first | omega | (simp <;> omega)))
  go_wp2_with fail
  refine (c_ringsP w.heap.size a1 a2 c1 c2 n2 rs1 rs2 _ (by simp [go_sem, *]) (by simp [go_sem, *]) (by first | omega | simp) (RS.below (B := w.heap.size) H1.out (by (repeat (first | (with_reducible refine Below.drewN ?_) | (with_reducible refine Below.drew ?_) | ((with_reducible refine Below.alloc ?_ ?_ _); rotate_left; (first | omega | (simp <;> omega))) | ((with_reducible refine Below.setCell ?_ ?_ _); rotate_left; (first | omega | (simp <;> omega))) | (with_reducible exact Below.refl _ _) | (with_reducible assumption)))) (Nat.le_refl _)) (RS.below (B := w.heap.size) H2.out (by (repeat (first | (with_reducible refine Below.drewN ?_) | (with_reducible refine Below.drew ?_) | ((with_reducible refine Below.alloc ?_ ?_ _); rotate_left; (first | omega | (simp <;> omega))) | ((with_reducible refine Below.setCell ?_ ?_ _); rotate_left; (first | omega | (simp <;> omega))) | (with_reducible exact Below.refl _ _) | (with_reducible assumption)))) (Nat.le_refl _)) q1 (by omega)).mono ?_
  rintro e w2 ⟨g, cg, rfl, hb2, hp2⟩
  have b2 : Below w.heap.size w w2 := b1.trans (hb2.mono b1.size)
  have HP := Lib.hid hp2
  have hcap := hp2.cap
  have hbig := hp2.big
  generalize hq : inter rs1 rs2 n2 = qs at *
  generalize hm : 2 * n2 = m at *
  have hm6 : m ≤ 6 := by omega
  clear hp2 hb2 hb1 hc1 hf1 hz1 zb1 b1 hq hm
  try clear z1_0
  try clear z1_1
  try clear z1_2
  try clear z1_3
  go_wp2
  go_loopw [4, 6, 12] (fun s _ i wr => ∃ k : Nat, k ≤ m ∧ i = .int .i64 k ∧ s = .int .i64 (rgSum qs k : Int) ∧ wr = w2) (fun _ _ i _ => m - (intOf i).toNat)
  case atStart => exact ⟨0, by omega, rfl, rfl, rfl⟩
  case round =>
    obtain ⟨k, hk, rfl, rfl, hwr⟩ := hrel
    subst hwr
    by_cases hlt : k < m
    · obtain ⟨bb, oo, hpt, hbb, hra⟩ := HP.out.at_ k hlt
      have x0 := hra.c0
      have hs := QS.out k (by omega)
      have hs' := (ok_n (HOK.out k hlt)).2.1
      have HR : Hid (rgSum qs (k + 1) = rgSum qs k + (rat qs k).n) := rfl
      clear hra
      go_wp2_with fail
      refine (c_length _ _ _ _).mono ?_
      rintro e w' ⟨rfl, rfl⟩
      go_wp2
      go_roundw
      case rel => exact ⟨k + 1, by omega, by go_num, by rw [HR.out]; congr 1 <;> (try omega), (by first | exact rfl | exact trivial)⟩
      case measure => simp [intOf]; omega
    · obtain rfl : m = k := by omega
      go_wp2
      refine bodyPost_ret (v := ?v) (by simp [results, Try.results25, go_sem, *] <;> rfl) rfl ?_
      exact ⟨rfl, b2⟩
theorem k_LengthOfPipe (a1 : Option Addr) (n1 c1 : Nat) (rs1 : List Rg) (a2 : Option Addr) (n2 c2 : Nat) (rs2 : List Rg) (a3 : Option Addr) (n3 c3 : Nat) (xs3 : List Nat) (k : Int) (f0 f1 f2 f3 f4 : Nat) (op : Bool) (x1 x2 x3 : Nat) (w : World) (h1 : RS w a1 n1 c1 rs1) (h2 : RS w a2 n2 c2 rs2) (h3 : FS w a3 n3 c3 xs3) :
    Calls Try.prog 5 #[.agg #[.slice a1 n1 c1, .slice a2 n2 c2, .slice a3 n3 c3, .int .i64 k, .float .f32 f0, .float .f32 f1, .float .f32 f2, .float .f32 f3, .float .f32 f4, .bool op, .float .f32 x1, .float .f32 x2, .float .f32 x3]] w (RetV (.bool true) w) := by
  cases hv : pipeB n1 rs1 n2 rs2 n3 xs3 ⟨k, f0, f1, f2, f3, f4, x1, x2, x3⟩
  · exact l_LengthOfPipe a1 n1 c1 rs1 a2 n2 c2 rs2 a3 n3 c3 xs3 k f0 f1 f2 f3 f4 op x1 x2 x3 0 1 w h1 h2 h3
      (fun W d1 d2 d3 e1 e2 e3 ss1 ss2 r1 r2 r3 s1 s2 => c_sLengthOfPipe_no d1 n1 e1 ss1 d2 n2 e2 ss2 d3 n3 e3 xs3 ⟨k, f0, f1, f2, f3, f4, x1, x2, x3⟩ op W r1 r2 r3 (by rw [pipeB_same s1 s2]; exact hv))
      (fun W d1 d2 d3 e1 e2 e3 ss1 ss2 r1 r2 r3 s1 s2 => c_LengthOfPipe_no d1 n1 e1 ss1 d2 n2 e2 ss2 d3 n3 e3 xs3 ⟨k, f0, f1, f2, f3, f4, x1, x2, x3⟩ op W r1 r2 r3 (by rw [pipeB_same s1 s2]; exact hv))
  · exact l_LengthOfPipe a1 n1 c1 rs1 a2 n2 c2 rs2 a3 n3 c3 xs3 k f0 f1 f2 f3 f4 op x1 x2 x3 (2 * (rgSum rs1 n1 : Int)) 0 w h1 h2 h3
      (fun W d1 d2 d3 e1 e2 e3 ss1 ss2 r1 r2 r3 s1 s2 => by rw [← rgSum_same s1 _ (Nat.le_refl _)]; exact c_sLengthOfPipe_ok d1 n1 e1 ss1 d2 n2 e2 ss2 d3 n3 e3 xs3 ⟨k, f0, f1, f2, f3, f4, x1, x2, x3⟩ op W r1 r2 r3 (by rw [pipeB_same s1 s2]; exact hv))
      (fun W d1 d2 d3 e1 e2 e3 ss1 ss2 r1 r2 r3 s1 s2 => by rw [← rgSum_same s1 _ (Nat.le_refl _)]; exact c_LengthOfPipe_ok d1 n1 e1 ss1 d2 n2 e2 ss2 d3 n3 e3 xs3 ⟨k, f0, f1, f2, f3, f4, x1, x2, x3⟩ op W r1 r2 r3 (by rw [pipeB_same s1 s2]; exact hv))
end Go.Proofs.Ytfhegjjgfaeinaa
