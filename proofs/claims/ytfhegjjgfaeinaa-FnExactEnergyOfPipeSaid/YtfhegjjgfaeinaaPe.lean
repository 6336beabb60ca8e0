
/-
The energy of a pipe.
-/
import Derived.Test.YtfhegjjgfaeinaaPn
import Derived.Test.YtfhegjjgfaeinaaPf
import Derived.Test.YtfhegjjgfaeinaaWEnergyOfPipe
namespace Go.Proofs.Ytfhegjjgfaeinaa
open Go Go.RowKit Fl
/-- the samples of the first rings, one behind the other -/
def cat (qs : List Rg) : Nat → List Nat
  | 0 => []
  | k + 1 => cat qs k ++ (rat qs k).xs
theorem cat_len {qs : List Rg} {n : Nat} (h : ∀ j, j < n → (rat qs j).xs.length = (rat qs j).n) : ∀ k, k ≤ n → (cat qs k).length = rgSum qs k
  | 0, _ => rfl
  | k + 1, hk => by rw [cat, List.length_append, cat_len h k (by omega), h k (by omega), rgSum]
theorem nth_left {xs ys : List Nat} {i : Nat} (h : i < xs.length) : nth (xs ++ ys) i = nth xs i := by
  unfold nth; rw [List.getD_eq_getElem?_getD, List.getD_eq_getElem?_getD, List.getElem?_append_left h]
theorem nth_right {xs ys : List Nat} {i : Nat} : nth (xs ++ ys) (xs.length + i) = nth ys i := by
  unfold nth; rw [List.getD_eq_getElem?_getD, List.getD_eq_getElem?_getD, List.getElem?_append_right (by omega)]; congr 2; omega
theorem cat_nth {qs : List Rg} {n : Nat} (h : ∀ j, j < n → (rat qs j).xs.length = (rat qs j).n) : ∀ m, m ≤ n → ∀ k i, k < m → i < (rat qs k).n → nth (cat qs m) (rgSum qs k + i) = nth (rat qs k).xs i
  | 0, _, k, i, hk, _ => absurd hk (by omega)
  | m + 1, hm, k, i, hk, hi => by
    have hl := cat_len h m (by omega)
    rw [cat]
    by_cases e : k = m
    · subst e; rw [← hl, nth_right]
    · have := rgSum_mono qs (show k + 1 ≤ m by omega)
      have e2 : rgSum qs (k + 1) = rgSum qs k + (rat qs k).n := rfl
      rw [nth_left (by omega), cat_nth h m (by omega) k i (by omega) hi]
theorem cat_fin {qs : List Rg} {n : Nat} (h : ∀ j, j < n → (rat qs j).xs.length = (rat qs j).n) (hf : ∀ j, j < n → ∀ i, i < (rat qs j).n → finB (nth (rat qs j).xs i) = true) : ∀ k, k ≤ n → ∀ i, i < rgSum qs k → finB (nth (cat qs k) i) = true
  | 0, _, i, hi => absurd hi (by simp [rgSum])
  | k + 1, hk, i, hi => by
    have hl := cat_len h k (by omega)
    rw [rgSum] at hi
    rw [cat]
    by_cases hlt : i < rgSum qs k
    · rw [nth_left (by omega)]; exact cat_fin h hf k (by omega) i hlt
    · obtain ⟨d, rfl⟩ : ∃ d, i = rgSum qs k + d := ⟨i - rgSum qs k, by omega⟩
      rw [← hl, nth_right]
      exact hf k (by omega) d (by omega)
theorem ok_fin {r : Rg} (h : r.ok = true) : ∀ i, i < r.n → finB (nth r.xs i) = true := by
  unfold Rg.ok at h; rw [Bool.and_eq_true] at h
  exact finTo_nth h.2
theorem RS.xlen {w : World} {a : Option Addr} {n c : Nat} {rs : List Rg} (h : RS w a n c rs) {j : Nat} (hj : j < n) : (rat rs j).xs.length = (rat rs j).n := by
  obtain ⟨b, o, _, _, hc⟩ := h.at_ (by omega)
  exact (hc j hj).fs.len
theorem inter_len' {rs ss : List Rg} {n : Nat} (h1 : ∀ j, j < n → (rat rs j).xs.length = (rat rs j).n) (h2 : ∀ j, j < n → (rat ss j).xs.length = (rat ss j).n) : ∀ j, j < 2 * n → (rat (inter rs ss n) j).xs.length = (rat (inter rs ss n) j).n := fun j hj => by
  have I := inter_get rs ss n (j / 2) (by omega)
  rcases half j with e | e
  · rw [e, I.1]; exact h1 _ (by omega)
  · rw [e, I.2]; exact h2 _ (by omega)
/-- the energy of both lists of rings -/
def enP (rs ss : List Rg) (n : Nat) : Nat := enF (cat (inter rs ss n) (2 * n)) (rgSum (inter rs ss n) (2 * n))
theorem cat_same {qs ps : List Rg} {n : Nat} (h : ∀ j, j < n → (rat ps j).xs = (rat qs j).xs) : ∀ k, k ≤ n → cat ps k = cat qs k
  | 0, _ => rfl
  | k + 1, hk => by rw [cat, cat, cat_same h k (by omega), h k (by omega)]
theorem enP_same {rs1 ss1 rs2 ss2 : List Rg} {n : Nat} (h1 : sameC rs1 ss1 n) (h2 : sameC rs2 ss2 n) : enP ss1 ss2 n = enP rs1 rs2 n := by
  have hs : ∀ j, j < 2 * n → (rat (inter ss1 ss2 n) j).n = (rat (inter rs1 rs2 n) j).n ∧ (rat (inter ss1 ss2 n) j).xs = (rat (inter rs1 rs2 n) j).xs := fun j hj => by
    have I := inter_get rs1 rs2 n (j / 2) (by omega)
    have J := inter_get ss1 ss2 n (j / 2) (by omega)
    rcases half j with e | e
    · rw [e, I.1, J.1]; exact ⟨(h1 _ (by omega)).1, (h1 _ (by omega)).2.1⟩
    · rw [e, I.2, J.2]; exact ⟨(h2 _ (by omega)).1, (h2 _ (by omega)).2.1⟩
  have e1 : rgSum (inter ss1 ss2 n) (2 * n) = rgSum (inter rs1 rs2 n) (2 * n) := by
    have : ∀ k, k ≤ 2 * n → rgSum (inter ss1 ss2 n) k = rgSum (inter rs1 rs2 n) k := fun k => by
      induction k with
      | zero => intro _; rfl
      | succ k ih => intro hk; rw [rgSum, rgSum, ih (by omega), (hs k (by omega)).1]
    exact this _ (Nat.le_refl _)
  unfold enP
  rw [e1, cat_same (fun j hj => (hs j hj).2) _ (Nat.le_refl _)]
theorem infoFl : (Try.prog.info? 24).map (fun i => (i.zero, i.size, i.bytes)) = some (some (.float .f32 0), 1, 4) := by kernel_rfl
theorem run_flts (w : World) (base : Nat) (v : Value) (n : Nat) (xs : List Value) (h : w.ownsRow base 24 1 v n xs) (hn : n ≤ 1000000) (hb : base ≤ w.heap.size) (a : Option Addr) (m c : Nat) (ys : List Nat) (hf : FS w a m c ys) (h0 : 0 < m) (hm : m ≤ 1000000) :
    ∃ v' w', (bigAppend #[23, 23] 23 #[v, .slice a m c]).run Try.prog w = .ok v' w' ∧ w'.ownsRow base 24 1 v' (n + m) (xs ++ ys.map fl) ∧ Below base w w' := by
  obtain ⟨i, hi, hz, hsz, hby⟩ := info_parts infoFl
  obtain ⟨b, o, rfl, hbl, hc⟩ := hf.at_ h0
  have hl := hf.len
  obtain ⟨v', w', h1, h2, h3, _⟩ := run_append_own (P := Try.prog) w base 23 23 24 i (.float .f32 0) 1 4 Try.underlying23 hi hz hsz hby rfl (by omega) v n xs h ⟨b, o, none⟩ m c (ys.map fl) (by simp [hl])
    (fun j u hj => by
      have hlt : j < m := by have := (List.getElem?_eq_some_iff.1 hj).1; simp at this; omega
      rw [Addr.add_mid, hc j hlt]
      simp only [List.getElem?_map] at hj
      have : ys[j]? = some (nth ys j) := by unfold nth; rw [List.getD_eq_getElem?_getD, List.getElem?_eq_getElem (by omega)]; rfl
      rw [this] at hj
      simpa [fl] using hj) (fun u hx => by obtain ⟨p, _, rfl⟩ := List.mem_map.1 hx; rfl) (by unfold maxLen; omega) (by omega) hb
  exact ⟨v', w', h1, h2, own_below h h3 hb⟩
set_option maxRecDepth 100000 in
set_option maxHeartbeats 4000000 in
theorem c_sEnergyOfPipe_no (a1 : Option Addr) (n1 c1 : Nat) (rs1 : List Rg) (a2 : Option Addr) (n2 c2 : Nat) (rs2 : List Rg) (a3 : Option Addr) (n3 c3 : Nat) (xs3 : List Nat) (p : Pn) (op : Bool) (w : World) (h1 : RS w a1 n1 c1 rs1) (h2 : RS w a2 n2 c2 rs2) (h3 : FS w a3 n3 c3 xs3) (hv : pipeB n1 rs1 n2 rs2 n3 xs3 p = false) :
    Calls Try.prog 26 #[.agg #[.slice a1 n1 c1, .slice a2 n2 c2, .slice a3 n3 c3, .int .i64 p.k, .float .f32 p.f0, .float .f32 p.f1, .float .f32 p.f2, .float .f32 p.f3, .float .f32 p.f4, .bool op, .float .f32 p.x1, .float .f32 p.x2, .float .f32 p.x3]] w (RetFD 0 1 w) := by
  have H1 := Lib.hid h1
  have H2 := Lib.hid h2
  have H3 := Lib.hid h3
  have HV : Hid (∀ W b, Below w.heap.size w W → PBox W b a1 n1 c1 a2 n2 c2 a3 n3 c3 p → b < W.heap.size → Calls Try.prog 45 #[.pointer (some ⟨b, 0, none⟩)] W (RetV (.bool false) W)) := fun W b hW hp hb => hv ▸ c_l04Ok b a1 n1 c1 rs1 a2 n2 c2 rs2 a3 n3 c3 xs3 p W hp hb (H1.out.below hW (Nat.le_refl _)) (H2.out.below hW (Nat.le_refl _)) (H3.out.below hW (Nat.le_refl _))
  clear h1 h2 h3 hv
  go_enter Try.func26, Try.ntmps26
  go_wp2_with fail
  refine (HV.out _ _ (by (repeat (first | (with_reducible refine Below.drewN ?_) | (with_reducible refine Below.drew ?_) | ((with_reducible refine Below.alloc ?_ ?_ _); rotate_left; (first | omega | (simp <;> omega))) | ((with_reducible refine Below.setCell ?_ ?_ _); rotate_left; (first | omega | (simp <;> omega))) | (with_reducible exact Below.refl _ _) | (with_reducible assumption)))) (PBox.new ..) (by simp)).mono ?_
  rintro e w1 ⟨rfl, hb1⟩
  obtain ⟨hc1, hf1, hz1⟩ := bcell hb1
  try simp at hz1
  have zb1 : w.heap.size ≤ w1.heap.size := by omega
  try (have z1_0 : w.heap.size < w1.heap.size := by omega)
  try (have z1_1 : w.heap.size + 1 < w1.heap.size := by omega)
  try (have z1_2 : w.heap.size + 1 + 1 < w1.heap.size := by omega)
  try (have z1_3 : w.heap.size + 1 + 1 + 1 < w1.heap.size := by omega)
  have b1 : Below w.heap.size w w1 := Below.trans (by (repeat (first | (with_reducible refine Below.drewN ?_) | (with_reducible refine Below.drew ?_) | ((with_reducible refine Below.alloc ?_ ?_ _); rotate_left; (first | omega | (simp <;> omega))) | ((with_reducible refine Below.setCell ?_ ?_ _); rotate_left; (first | omega | (simp <;> omega))) | (with_reducible exact Below.refl _ _) | (with_reducible assumption)))) (hb1.mono (by first | omega | (simp <;> omega)))
  go_wp2
  go_ret2
  exact ⟨0, rfl, by (repeat (first | (with_reducible refine Below.drewN ?_) | (with_reducible refine Below.drew ?_) | ((with_reducible refine Below.alloc ?_ ?_ _); rotate_left; (first | omega | (simp <;> omega))) | ((with_reducible refine Below.setCell ?_ ?_ _); rotate_left; (first | omega | (simp <;> omega))) | (with_reducible exact Below.refl _ _) | (with_reducible assumption)))⟩
set_option maxRecDepth 100000 in
set_option maxHeartbeats 4000000 in
theorem c_EnergyOfPipe_no (a1 : Option Addr) (n1 c1 : Nat) (rs1 : List Rg) (a2 : Option Addr) (n2 c2 : Nat) (rs2 : List Rg) (a3 : Option Addr) (n3 c3 : Nat) (xs3 : List Nat) (p : Pn) (op : Bool) (w : World) (h1 : RS w a1 n1 c1 rs1) (h2 : RS w a2 n2 c2 rs2) (h3 : FS w a3 n3 c3 xs3) (hv : pipeB n1 rs1 n2 rs2 n3 xs3 p = false) :
    Calls Try.prog 27 #[.agg #[.slice a1 n1 c1, .slice a2 n2 c2, .slice a3 n3 c3, .int .i64 p.k, .float .f32 p.f0, .float .f32 p.f1, .float .f32 p.f2, .float .f32 p.f3, .float .f32 p.f4, .bool op, .float .f32 p.x1, .float .f32 p.x2, .float .f32 p.x3]] w (RetFD 0 1 w) := by
  have H1 := Lib.hid h1
  have H2 := Lib.hid h2
  have H3 := Lib.hid h3
  have HV : Hid (∀ W, Below w.heap.size w W → Calls Try.prog 16 #[.agg #[.slice a1 n1 c1, .slice a2 n2 c2, .slice a3 n3 c3, .int .i64 p.k, .float .f32 p.f0, .float .f32 p.f1, .float .f32 p.f2, .float .f32 p.f3, .float .f32 p.f4, .bool op, .float .f32 p.x1, .float .f32 p.x2, .float .f32 p.x3]] W (RetV (.bool false) W)) := fun W hW => hv ▸ c_ValidPipe a1 n1 c1 rs1 a2 n2 c2 rs2 a3 n3 c3 xs3 p op W (H1.out.below hW (Nat.le_refl _)) (H2.out.below hW (Nat.le_refl _)) (H3.out.below hW (Nat.le_refl _))
  clear h1 h2 h3 hv
  go_enter Try.func27, Try.ntmps27
  go_wp2_with fail
  refine (HV.out _ (by (repeat (first | (with_reducible refine Below.drewN ?_) | (with_reducible refine Below.drew ?_) | ((with_reducible refine Below.alloc ?_ ?_ _); rotate_left; (first | omega | (simp <;> omega))) | ((with_reducible refine Below.setCell ?_ ?_ _); rotate_left; (first | omega | (simp <;> omega))) | (with_reducible exact Below.refl _ _) | (with_reducible assumption))))).mono ?_
  rintro e w1 ⟨rfl, hb1⟩
  obtain ⟨hc1, hf1, hz1⟩ := bcell hb1
  try simp at hz1
  have zb1 : w.heap.size ≤ w1.heap.size := by omega
  try (have z1_0 : w.heap.size < w1.heap.size := by omega)
  try (have z1_1 : w.heap.size + 1 < w1.heap.size := by omega)
  try (have z1_2 : w.heap.size + 1 + 1 < w1.heap.size := by omega)
  try (have z1_3 : w.heap.size + 1 + 1 + 1 < w1.heap.size := by omega)
  have b1 : Below w.heap.size w w1 := Below.trans (by (repeat (first | (with_reducible refine Below.drewN ?_) | (with_reducible refine Below.drew ?_) | ((with_reducible refine Below.alloc ?_ ?_ _); rotate_left; (first | omega | (simp <;> omega))) | ((with_reducible refine Below.setCell ?_ ?_ _); rotate_left; (first | omega | (simp <;> omega))) | (with_reducible exact Below.refl _ _) | (with_reducible assumption)))) (hb1.mono (by first | omega | (simp <;> omega)))
  go_wp2
  go_ret2
  exact ⟨0, rfl, by (repeat (first | (with_reducible refine Below.drewN ?_) | (with_reducible refine Below.drew ?_) | ((with_reducible refine Below.alloc ?_ ?_ _); rotate_left; (first | omega | (simp <;> omega))) | ((with_reducible refine Below.setCell ?_ ?_ _); rotate_left; (first | omega | (simp <;> omega))) | (with_reducible exact Below.refl _ _) | (with_reducible assumption)))⟩
set_option maxRecDepth 100000 in
set_option maxHeartbeats 4000000 in
theorem c_sEnergyOfPipe_ok (a1 : Option Addr) (n1 c1 : Nat) (rs1 : List Rg) (a2 : Option Addr) (n2 c2 : Nat) (rs2 : List Rg) (a3 : Option Addr) (n3 c3 : Nat) (xs3 : List Nat) (p : Pn) (op : Bool) (w : World) (h1 : RS w a1 n1 c1 rs1) (h2 : RS w a2 n2 c2 rs2) (h3 : FS w a3 n3 c3 xs3) (hv : pipeB n1 rs1 n2 rs2 n3 xs3 p = true) :
    Calls Try.prog 26 #[.agg #[.slice a1 n1 c1, .slice a2 n2 c2, .slice a3 n3 c3, .int .i64 p.k, .float .f32 p.f0, .float .f32 p.f1, .float .f32 p.f2, .float .f32 p.f3, .float .f32 p.f4, .bool op, .float .f32 p.x1, .float .f32 p.x2, .float .f32 p.x3]] w (RetFD (enP rs1 rs2 n1) 0 w) := by
  have H1 := Lib.hid h1
  have H2 := Lib.hid h2
  have H3 := Lib.hid h3
  have HV : Hid (∀ W b, Below w.heap.size w W → PBox W b a1 n1 c1 a2 n2 c2 a3 n3 c3 p → b < W.heap.size → Calls Try.prog 45 #[.pointer (some ⟨b, 0, none⟩)] W (RetV (.bool true) W)) := fun W b hW hp hb => hv ▸ c_l04Ok b a1 n1 c1 rs1 a2 n2 c2 rs2 a3 n3 c3 xs3 p W hp hb (H1.out.below hW (Nat.le_refl _)) (H2.out.below hW (Nat.le_refl _)) (H3.out.below hW (Nat.le_refl _))
  have HO := Lib.hid (pipeB_yes hv)
  have q1 := HO.out.lo
  have q2 := HO.out.hi
  obtain rfl : n2 = n1 := HO.out.eq
  have HOK := Lib.hid (inter_ok HO.out.r1 HO.out.r2)
  have QS := Lib.hid (fun k hk => rgSum_le HOK.out k hk)
  have QL := Lib.hid (inter_len' (fun j hj => h1.xlen hj) (fun j hj => h2.xlen hj))
  have QF := Lib.hid (cat_fin QL.out (fun j hj => ok_fin (HOK.out j hj)) (2 * n2) (Nat.le_refl _))
  have QE := Lib.hid (enF_le QF.out)
  have QC := Lib.hid (cat_len QL.out)
  have QI := Lib.hid (fun j hj => inter_get rs1 rs2 n2 j hj)
  obtain ⟨d1, o1, rfl, hbl1, hcell1⟩ := h1.at_ q1
  obtain ⟨d2, o2, rfl, hbl2, hcell2⟩ := h2.at_ q1
  have C1 := Lib.hid hcell1
  have C2 := Lib.hid hcell2
  clear h1 h2 h3 hv hcell1 hcell2
  rw [show enP rs1 rs2 n2 = enF (cat (inter rs1 rs2 n2) (2 * n2)) (rgSum (inter rs1 rs2 n2) (2 * n2)) from rfl]
  generalize hqs : inter rs1 rs2 n2 = qs at *
  go_enter Try.func26, Try.ntmps26
  go_wp2_with fail
  refine (HV.out _ _ (by (repeat (first | (with_reducible refine Below.drewN ?_) | (with_reducible refine Below.drew ?_) | ((with_reducible refine Below.alloc ?_ ?_ _); rotate_left; (first | omega | (simp <;> omega))) | ((with_reducible refine Below.setCell ?_ ?_ _); rotate_left; (first | omega | (simp <;> omega))) | (with_reducible exact Below.refl _ _) | (with_reducible assumption)))) (PBox.new ..) (by simp)).mono ?_
  rintro e w1 ⟨rfl, hb1⟩
  have PB := Lib.hid (PBox.below (PBox.new w (some ⟨d1, o1, none⟩) n2 c1 (some ⟨d2, o2, none⟩) n2 c2 a3 n3 c3 p op _) hb1 (by simp))
  obtain ⟨hc1, hf1, hz1⟩ := bcell hb1
  try simp at hz1
  have zb1 : w.heap.size ≤ w1.heap.size := by omega
  try (have z1_0 : w.heap.size < w1.heap.size := by omega)
  try (have z1_1 : w.heap.size + 1 < w1.heap.size := by omega)
  try (have z1_2 : w.heap.size + 1 + 1 < w1.heap.size := by omega)
  try (have z1_3 : w.heap.size + 1 + 1 + 1 < w1.heap.size := by omega)
  have b1 : Below w.heap.size w w1 := Below.trans (by (repeat (first | (with_reducible refine Below.drewN ?_) | (with_reducible refine Below.drew ?_) | ((with_reducible refine Below.alloc ?_ ?_ _); rotate_left; (first | omega | (simp <;> omega))) | ((with_reducible refine Below.setCell ?_ ?_ _); rotate_left; (first | omega | (simp <;> omega))) | (with_reducible exact Below.refl _ _) | (with_reducible assumption)))) (hb1.mono (by first | omega | (simp <;> omega)))
  clear hc1 hf1 hb1
  go_upto_region 4 with fail
  refine wp_named ?_
  intro W0 hW0
  have bW : Below w.heap.size w W0 := by rw [hW0]; (repeat (first | (with_reducible refine Below.drewN ?_) | (with_reducible refine Below.drew ?_) | ((with_reducible refine Below.alloc ?_ ?_ _); rotate_left; (first | omega | (simp <;> omega))) | ((with_reducible refine Below.setCell ?_ ?_ _); rotate_left; (first | omega | (simp <;> omega))) | (with_reducible exact Below.refl _ _) | (with_reducible assumption)))
  have zW : w.heap.size < W0.heap.size := by rw [hW0]; simp; omega
  have PW := Lib.hid (PB.out.below (w' := W0) (by rw [hW0]; (repeat (first | (with_reducible refine Below.drewN ?_) | (with_reducible refine Below.drew ?_) | ((with_reducible refine Below.alloc ?_ ?_ _); rotate_left; (first | omega | (simp <;> omega))) | ((with_reducible refine Below.setCell ?_ ?_ _); rotate_left; (first | omega | (simp <;> omega))) | (with_reducible exact Below.refl _ _) | (with_reducible assumption)))) (by omega))
  have R0 : Hid (W0.ownsRow w1.heap.size 24 1 (.slice (some ⟨w1.heap.size, 0, none⟩) 0 0) 0 []) := by rw [hW0]; exact World.ownsRow_made w1 #[] 0 (Nat.le_refl _) (by unfold maxLen; omega) rfl
  have zw : w1.heap.size ≤ W0.heap.size := by rw [hW0]; simp
  have e0 := PW.out.e0
  have e1 := PW.out.e1
  have y1 : d1 < W0.heap.size := Nat.lt_of_lt_of_le hbl1 bW.size
  have y2 : d2 < W0.heap.size := Nat.lt_of_lt_of_le hbl2 bW.size
  have zb1' := zb1
  have zb0 : w.heap.size < w1.heap.size := z1_0
  clear hW0 hz1
  try clear z1_1
  try clear z1_2
  try clear z1_3
  have bW1 := Lib.hid b1
  clear b1
  go_wp2
  go_loopw [4, 5] (fun al i wr => ∃ k : Nat, k ≤ n2 ∧ i = .int .i64 k ∧ Hid (wr.ownsRow w1.heap.size 24 1 al (rgSum qs (2 * k)) ((cat qs (2 * k)).map fl)) ∧ Hid (W0.heap.size ≤ wr.heap.size) ∧ Below w1.heap.size W0 wr) (fun _ i _ => n2 - (intOf i).toNat)
  case atStart => exact ⟨0, by omega, rfl, R0, Nat.le_refl _, Below.refl _ _⟩
  case round =>
    clear R0
    obtain ⟨k, hk, rfl, hown, hsz, hbe⟩ := hrel
    have BW := Lib.hid (bW.trans (hbe.mono (Nat.le_of_lt zb0)))
    have E0 : wr.cell? ⟨w.heap.size, 0, none⟩ = some (.slice (some ⟨d1, o1, none⟩) n2 c1) := (hbe.cell (p := ⟨w.heap.size, 0, none⟩) zb0).trans e0
    have E1 : wr.cell? ⟨w.heap.size, 1, none⟩ = some (.slice (some ⟨d2, o2, none⟩) n2 c2) := (hbe.cell (p := ⟨w.heap.size, 1, none⟩) zb0).trans e1
    have HBE := Lib.hid hbe
    clear e0 e1 hbe
    by_cases hlt : k < n2
    · have HSZ := Lib.hid (show w1.heap.size ≤ wr.heap.size by have := hsz.out; omega)
      have I := QI.out k hlt
      have HR : Hid (rgSum qs (2 * (k + 1)) = rgSum qs (2 * k) + (rat rs1 k).n + (rat rs2 k).n) := by
        show _ = _
        rw [show 2 * (k + 1) = 2 * k + 1 + 1 by omega, rgSum, rgSum, I.1, I.2]
      have HC : Hid ((cat qs (2 * (k + 1))).map fl = (cat qs (2 * k)).map fl ++ (rat rs1 k).xs.map fl ++ (rat rs2 k).xs.map fl) := by
        show _ = _
        rw [show 2 * (k + 1) = 2 * k + 1 + 1 by omega, cat, cat, I.1, I.2, List.map_append, List.map_append]
      have hs := QS.out (2 * (k + 1)) (by omega)
      rw [HR.out] at hs
      have p1 := (ok_n (HO.out.r1 k hlt)).1
      have p2 := (ok_n (HO.out.r2 k hlt)).1
      have r1 := (C1.out k hlt).below BW.out (Nat.le_refl _) hbl1
      have x0 := r1.c0
      obtain ⟨v1, W1, hap1, ho1, hbb1⟩ := run_flts wr w1.heap.size u4 _ _ hown.out (by omega) HSZ.out _ _ _ _ r1.fs (by omega) (by omega)
      have BW1 := Lib.hid (BW.out.trans (hbb1.mono (Nat.le_of_lt zb0)))
      have hz1' := hbb1.size
      have r2 := (C2.out k hlt).below BW1.out (Nat.le_refl _) hbl2
      have x1 := r2.c0
      have E1' : W1.cell? ⟨w.heap.size, 1, none⟩ = some (.slice (some ⟨d2, o2, none⟩) n2 c2) := (hbb1.cell (p := ⟨w.heap.size, 1, none⟩) zb0).trans E1
      obtain ⟨v2, W2, hap2, ho2, hbb2⟩ := run_flts W1 w1.heap.size v1 _ _ ho1 (by omega) (Nat.le_trans HSZ.out hz1') _ _ _ _ r2.fs (by omega) (by omega)
      have hz2' := hbb2.size
      have HO2 : Hid (W2.ownsRow w1.heap.size 24 1 v2 (rgSum qs (2 * (k + 1))) ((cat qs (2 * (k + 1))).map fl)) := by
        show World.ownsRow _ _ _ _ _ _ _
        rw [HR.out, HC.out]; exact ho2
      have HB2 := Lib.hid (HBE.out.trans (hbb1.trans hbb2))
      have HS2 : Hid (W0.heap.size ≤ W2.heap.size) := Nat.le_trans hsz.out (Nat.le_trans hz1' hz2')
      clear r1 r2 ho1 ho2 hbb1 hbb2 hown I hs hsz
      go_wp2
      go_roundw
      case rel => exact ⟨k + 1, by omega, by go_num, HO2, HS2, HB2.out⟩
      case measure => simp [intOf]; omega
    · obtain rfl : n2 = k := by omega
      have hN : 0 < rgSum qs (2 * n2) := by
        have := rgSum_mono qs (show 1 ≤ 2 * n2 by omega)
        have e : rgSum qs 1 = 0 + (rat qs 0).n := rfl
        have := (ok_n (HOK.out 0 (by omega))).1
        omega
      have hN2 := QS.out (2 * n2) (Nat.le_refl _)
      obtain ⟨g, c, rfl, hbg, hgl, hNc, hcm, hcell⟩ := own_cells hown.out hN
      have hlen := QC.out (2 * n2) (Nat.le_refl _)
      have HG : Hid (∀ j, j < rgSum qs (2 * n2) → wr.cell? ⟨g, j, none⟩ = some (.float .f32 (nth (cat qs (2 * n2)) j))) := fun j hj => hcell j _ (by
        rw [List.getElem?_map, List.getElem?_eq_getElem (by omega)]
        unfold nth; rw [List.getD_eq_getElem?_getD, List.getElem?_eq_getElem (by omega)]; rfl)
      generalize hl : cat qs (2 * n2) = l at *
      generalize hNN : rgSum qs (2 * n2) = N at *
      clear hown hcell C1 C2 HOK QS QL QC QI PB PW hlen HO hl hNN y1 y2
      go_wp2
      clear E0 E1
      go_loopw [6, 7, 8] (fun s i _ w3 => ∃ k : Nat, k ≤ N ∧ i = .int .i64 k ∧ s = .float .f64 (enF l k) ∧ ∃ q, w3 = wr.drewN q) (fun _ i _ _ => N - (intOf i).toNat)
      case atStart => exact ⟨0, by omega, rfl, rfl, same0 _⟩
      case round =>
        obtain ⟨j, hj, rfl, rfl, q, rfl⟩ := hrel
        by_cases hlt2 : j < N
        · have hcl := HG.out j hlt2
          have hf := QF.out j hlt2
          have hE1 := QE.out (j + 1) (by omega)
          have hPP := sq_le hf
          have HP : Hid (∀ t, nv .f64 (fop .mul .f64 (up (nth l j)) (up (nth l j))) t = sqF (nth l j)) := fun t => nv_le t hPP
          have HA : Hid (fop .add .f64 (enF l j) (sqF (nth l j)) = enF l (j + 1)) := rfl
          have HV := Lib.hid (fun t => nv_le t hE1)
          have HD := Lib.hid (dn_le hE1)
          have H1 : Hid (j = 0 → sqF (nth l j) = enF l (j + 1)) := fun h => by subst h; exact (enF_one (QF.out 0 (by omega))).symm
          clear hE1 hPP hf
          generalize hEE : enF l (j + 1) = E' at *
          have HEE := Lib.hid hEE
          clear hEE
          generalize sqF (nth l j) = P at *
          by_cases h0 : j = 0
          · have e := H1.out h0
            subst h0
            clear HA HV HD H1
            go_wp2
            refine wp_region_sets' (by kernel_rfl) (by kernel_rfl) ?_
            apply Exists.intro
            iterate 4 (apply lx_want; kernel_rfl; (intro n; go_simp; exact ⟨OneV.mk _, _, (by first | rfl | exact congrArg _ (Nat.add_assoc _ _ _))⟩); rintro _ rfl)
            (apply lx_want; kernel_rfl; (intro n; go_simp; exact ⟨LF.mk _ _ _, _, (by first | rfl | exact congrArg _ (Nat.add_assoc _ _ _))⟩); rintro _ ⟨t, rfl⟩)
            iterate 4 (first | (apply lx_want; kernel_rfl; (intro n; go_simp; exact ⟨LF.mk _ _ _, _, (by first | rfl | exact congrArg _ (Nat.add_assoc _ _ _))⟩); rintro _ ⟨t, rfl⟩) | (apply lx_want; kernel_rfl; (intro n; go_simp; exact ⟨OneV.mk _, _, (by first | rfl | exact congrArg _ (Nat.add_assoc _ _ _))⟩); rintro _ rfl))
            (apply lx_want; kernel_rfl; (intro n; go_simp; exact ⟨LF.mk _ _ _, _, (by first | rfl | exact congrArg _ (Nat.add_assoc _ _ _))⟩); rintro _ ⟨t, rfl⟩)
            (apply lx_want; kernel_rfl; (intro n; go_simp; exact ⟨LF.mk _ _ _, _, (by first | rfl | exact congrArg _ (Nat.add_assoc _ _ _))⟩); rintro _ ⟨t, rfl⟩)
            (first | (apply lx_want; kernel_rfl; (intro n; go_simp; exact ⟨LF.mk _ _ _, _, (by first | rfl | exact congrArg _ (Nat.add_assoc _ _ _))⟩); rintro _ ⟨t, rfl⟩) | (apply lx_want; kernel_rfl; (intro n; go_simp; exact ⟨OneV.mk _, _, (by first | rfl | exact congrArg _ (Nat.add_assoc _ _ _))⟩); rintro _ rfl))
            (refine lx_nil (Vl := []) ?_; intro n; simp only [Act.put, List.setIfInBounds_toArray, List.set_cons_succ, List.set_cons_zero])
            simp only [HP.out]
            go_wp2
            go_roundw
            case rel => exact ⟨0 + 1, by omega, by go_num, by rw [e]; exact congrArg _ HEE.out.symm, same1 _ _⟩
            case measure => simp [intOf]; omega
          · clear H1
            go_wp2
            refine wp_region_sets' (by kernel_rfl) (by kernel_rfl) ?_
            apply Exists.intro
            iterate 4 (apply lx_want; kernel_rfl; (intro n; go_simp; exact ⟨OneV.mk _, _, (by first | rfl | exact congrArg _ (Nat.add_assoc _ _ _))⟩); rintro _ rfl)
            (apply lx_want; kernel_rfl; (intro n; go_simp; exact ⟨LF.mk _ _ _, _, (by first | rfl | exact congrArg _ (Nat.add_assoc _ _ _))⟩); rintro _ ⟨t, rfl⟩)
            iterate 4 (first | (apply lx_want; kernel_rfl; (intro n; go_simp; exact ⟨LF.mk _ _ _, _, (by first | rfl | exact congrArg _ (Nat.add_assoc _ _ _))⟩); rintro _ ⟨t, rfl⟩) | (apply lx_want; kernel_rfl; (intro n; go_simp; exact ⟨OneV.mk _, _, (by first | rfl | exact congrArg _ (Nat.add_assoc _ _ _))⟩); rintro _ rfl))
            (apply lx_want; kernel_rfl; (intro n; go_simp; exact ⟨LF.mk _ _ _, _, (by first | rfl | exact congrArg _ (Nat.add_assoc _ _ _))⟩); rintro _ ⟨t, rfl⟩)
            (apply lx_want; kernel_rfl; (intro n; go_simp; exact ⟨LF.mk _ _ _, _, (by first | rfl | exact congrArg _ (Nat.add_assoc _ _ _))⟩); rintro _ ⟨t, rfl⟩)
            (first | (apply lx_want; kernel_rfl; (intro n; go_simp; exact ⟨LF.mk _ _ _, _, (by first | rfl | exact congrArg _ (Nat.add_assoc _ _ _))⟩); rintro _ ⟨t, rfl⟩) | (apply lx_want; kernel_rfl; (intro n; go_simp; exact ⟨OneV.mk _, _, (by first | rfl | exact congrArg _ (Nat.add_assoc _ _ _))⟩); rintro _ rfl))
            (refine lx_nil (Vl := []) ?_; intro n; simp only [Act.put, List.setIfInBounds_toArray, List.set_cons_succ, List.set_cons_zero])
            simp only [HP.out]
            have ha := HA.out
            have hv := HV.out
            have hd := HD.out
            go_wp2
            go_roundw
            case rel => exact ⟨j + 1, by omega, by go_num, congrArg _ HEE.out.symm, same1 _ _⟩
            case measure => simp [intOf]; omega
        · obtain rfl : N = j := by omega
          have hB := HBE.out
          go_wp2
          go_ret2
          exact ⟨0, by rw [nv_le 0 (QE.out _ (Nat.le_refl _))]; rfl, Below.trans BW.out (below_drewN (Below.refl _ _) _)⟩
set_option maxRecDepth 100000 in
set_option maxHeartbeats 4000000 in
theorem c_EnergyOfPipe_ok (a1 : Option Addr) (n1 c1 : Nat) (rs1 : List Rg) (a2 : Option Addr) (n2 c2 : Nat) (rs2 : List Rg) (a3 : Option Addr) (n3 c3 : Nat) (xs3 : List Nat) (p : Pn) (op : Bool) (w : World) (h1 : RS w a1 n1 c1 rs1) (h2 : RS w a2 n2 c2 rs2) (h3 : FS w a3 n3 c3 xs3) (hv : pipeB n1 rs1 n2 rs2 n3 xs3 p = true) :
    Calls Try.prog 27 #[.agg #[.slice a1 n1 c1, .slice a2 n2 c2, .slice a3 n3 c3, .int .i64 p.k, .float .f32 p.f0, .float .f32 p.f1, .float .f32 p.f2, .float .f32 p.f3, .float .f32 p.f4, .bool op, .float .f32 p.x1, .float .f32 p.x2, .float .f32 p.x3]] w (RetFD (enP rs1 rs2 n1) 0 w) := by
  have H1 := Lib.hid h1
  have H2 := Lib.hid h2
  have H3 := Lib.hid h3
  have HV : Hid (∀ W, Below w.heap.size w W → Calls Try.prog 16 #[.agg #[.slice a1 n1 c1, .slice a2 n2 c2, .slice a3 n3 c3, .int .i64 p.k, .float .f32 p.f0, .float .f32 p.f1, .float .f32 p.f2, .float .f32 p.f3, .float .f32 p.f4, .bool op, .float .f32 p.x1, .float .f32 p.x2, .float .f32 p.x3]] W (RetV (.bool true) W)) := fun W hW => hv ▸ c_ValidPipe a1 n1 c1 rs1 a2 n2 c2 rs2 a3 n3 c3 xs3 p op W (H1.out.below hW (Nat.le_refl _)) (H2.out.below hW (Nat.le_refl _)) (H3.out.below hW (Nat.le_refl _))
  have HO := Lib.hid (pipeB_yes hv)
  have q1 := HO.out.lo
  have q2 := HO.out.hi
  obtain rfl : n2 = n1 := HO.out.eq
  have HOK := Lib.hid (inter_ok HO.out.r1 HO.out.r2)
  have QS := Lib.hid (fun k hk => rgSum_le HOK.out k hk)
  have QL := Lib.hid (inter_len' (fun j hj => h1.xlen hj) (fun j hj => h2.xlen hj))
  have QF := Lib.hid (cat_fin QL.out (fun j hj => ok_fin (HOK.out j hj)) (2 * n2) (Nat.le_refl _))
  have QE := Lib.hid (enF_le QF.out)
  have QN := Lib.hid (cat_nth QL.out (2 * n2) (Nat.le_refl _))
  clear h1 h2 h3 hv
  rw [show enP rs1 rs2 n2 = enF (cat (inter rs1 rs2 n2) (2 * n2)) (rgSum (inter rs1 rs2 n2) (2 * n2)) from rfl]
  go_enter Try.func27, Try.ntmps27
  go_wp2_with fail
  refine (HV.out _ (by (repeat (first | (with_reducible refine Below.drewN ?_) | (with_reducible refine Below.drew ?_) | ((with_reducible refine Below.alloc ?_ ?_ _); rotate_left; (first | omega | (simp <;> omega))) | ((with_reducible refine Below.setCell ?_ ?_ _); rotate_left; (first | omega | (simp <;> omega))) | (with_reducible exact Below.refl _ _) | (with_reducible assumption))))).mono ?_
  rintro e w1 ⟨rfl, hb1⟩
  obtain ⟨hc1, hf1, hz1⟩ := bcell hb1
  try simp at hz1
  have zb1 : w.heap.size ≤ w1.heap.size := by omega
  try (have z1_0 : w.heap.size < w1.heap.size := by omega)
  try (have z1_1 : w.heap.size + 1 < w1.heap.size := by omega)
  try (have z1_2 : w.heap.size + 1 + 1 < w1.heap.size := by omega)
  try (have z1_3 : w.heap.size + 1 + 1 + 1 < w1.heap.size := by omega)
  have b1 : Below w.heap.size w w1 := Below.trans (by (repeat (first | (with_reducible refine Below.drewN ?_) | (with_reducible refine Below.drew ?_) | ((with_reducible refine Below.alloc ?_ ?_ _); rotate_left; (first | omega | (simp <;> omega))) | ((with_reducible refine Below.setCell ?_ ?_ _); rotate_left; (first | omega | (simp <;> omega))) | (with_reducible exact Below.refl _ _) | (with_reducible assumption)))) (hb1.mono (by first | omega | (simp <;> omega)))
  go_wp2_with fail
  refine (c_ringsP w.heap.size a1 a2 c1 c2 n2 rs1 rs2 _ (by simp [go_sem, *]) (by simp [go_sem, *]) (by first | omega | simp) (RS.below (B := w.heap.size) H1.out (by (repeat (first | (with_reducible refine Below.drewN ?_) | (with_reducible refine Below.drew ?_) | ((with_reducible refine Below.alloc ?_ ?_ _); rotate_left; (first | omega | (simp <;> omega))) | ((with_reducible refine Below.setCell ?_ ?_ _); rotate_left; (first | omega | (simp <;> omega))) | (with_reducible exact Below.refl _ _) | (with_reducible assumption)))) (Nat.le_refl _)) (RS.below (B := w.heap.size) H2.out (by (repeat (first | (with_reducible refine Below.drewN ?_) | (with_reducible refine Below.drew ?_) | ((with_reducible refine Below.alloc ?_ ?_ _); rotate_left; (first | omega | (simp <;> omega))) | ((with_reducible refine Below.setCell ?_ ?_ _); rotate_left; (first | omega | (simp <;> omega))) | (with_reducible exact Below.refl _ _) | (with_reducible assumption)))) (Nat.le_refl _)) q1 (by omega)).mono ?_
  rintro e w2 ⟨g, cg, rfl, hb2, hp2⟩
  have b2 : Below w.heap.size w w2 := b1.trans (hb2.mono b1.size)
  have HP := Lib.hid hp2
  have hcap := hp2.cap
  have hbig := hp2.big
  have HM := Lib.hid (fun k hk => rgSum_mono (inter rs1 rs2 n2) (n := 2 * n2) (k := k) hk)
  generalize hq : inter rs1 rs2 n2 = qs at *
  generalize hm : 2 * n2 = m at *
  have hm6 : m ≤ 6 := by omega
  generalize hl : cat qs m = l at *
  clear hp2 hb2 hb1 hc1 hf1 hz1 zb1 b1 hq hm hl HO QL
  try clear z1_0
  try clear z1_1
  try clear z1_2
  try clear z1_3
  go_wp2
  go_loopg [4, 6, 8, 14, 23] m (fun gg s _ _ i _ wr => ∃ k : Nat, k ≤ m ∧ gg = m - k ∧ i = .int .i64 k ∧ s = .float .f64 (enF l (rgSum qs k)) ∧ w2 = wr)
  case atStart => exact ⟨0, by omega, by omega, rfl, rfl, rfl⟩
  case round =>
    obtain ⟨k, hk, rfl, rfl, rfl, hw⟩ := hrel
    subst hw
    by_cases hlt : k < m
    · obtain ⟨bb, oo, hpt, hbb, hra⟩ := HP.out.at_ k hlt
      have x0 := hra.c0
      have hN1 := (ok_n (HOK.out k hlt)).2.1
      have HR : Hid (rgSum qs (k + 1) = rgSum qs k + (rat qs k).n) := rfl
      have HNT := Lib.hid (fun i hi => QN.out k i hlt hi)
      have HMM : Hid (rgSum qs k + (rat qs k).n ≤ rgSum qs m) := HM.out (k + 1) (by omega)
      obtain ⟨b3, o3, ha3, hbl3, hcell3⟩ := hra.fs.at_ (by have := (ok_n (HOK.out k hlt)).1; omega)
      have HC := Lib.hid hcell3
      rw [ha3] at x0
      clear hra hcell3 ha3
      generalize (rat qs k).n = M at *
      generalize hS : rgSum qs k = S0 at *
      have HS0 := Lib.hid hS
      clear hS
      go_wp2
      go_loopg [4, 8, 23] M (fun gg s _ i wr => ∃ j : Nat, j ≤ M ∧ gg = M - j ∧ i = .int .i64 j ∧ s = .float .f64 (enF l (S0 + j)) ∧ w2 = wr)
      case atStart => exact ⟨0, by omega, by omega, rfl, rfl, rfl⟩
      case round =>
        obtain ⟨j, hj, rfl, rfl, rfl, hw2⟩ := hrel
        subst hw2
        by_cases hlt2 : j < M
        · have hcl := HC.out j hlt2
          rw [← HNT.out j hlt2] at hcl
          have hf := QF.out (S0 + j) (by have := HMM.out; omega)
          have hE1 := QE.out (S0 + j + 1) (by have := HMM.out; omega)
          have hPP := sq_le hf
          have hU := up_fin hf
          have hXd : dn .f32 (nth l (S0 + j)) = 0 := by unfold dn; rw [fin_nan hf]; rfl
          have hUn : ∀ t, nv .f64 (up (nth l (S0 + j))) t = up (nth l (S0 + j)) := fun t => nv_of t hU
          have hUd : dn .f64 (up (nth l (S0 + j))) = 0 := by unfold dn; rw [hU]; rfl
          have hP : fop .mul .f64 (up (nth l (S0 + j))) (up (nth l (S0 + j))) = sqF (nth l (S0 + j)) := rfl
          have hPn : ∀ t, nv .f64 (sqF (nth l (S0 + j))) t = sqF (nth l (S0 + j)) := fun t => nv_le t hPP
          have hPd := dn_le hPP
          have hA : fop .add .f64 (enF l (S0 + j)) (sqF (nth l (S0 + j))) = enF l (S0 + j + 1) := rfl
          have hV : ∀ t, nv .f64 (enF l (S0 + j + 1)) t = enF l (S0 + j + 1) := fun t => nv_le t hE1
          have hD := dn_le hE1
          clear hE1 hPP hf hU
          generalize hEE : enF l (S0 + j + 1) = E' at *
          have HEE := Lib.hid hEE
          clear hEE
          generalize sqF (nth l (S0 + j)) = P at *
          generalize nth l (S0 + j) = X at *
          go_wp2
          go_roundg (M - (j + 1))
          case rel => exact ⟨j + 1, by omega, rfl, by go_num, congrArg _ HEE.out.symm, rfl⟩
          case measure => omega
        · obtain rfl : M = j := by omega
          go_wp2
          go_roundg (m - (k + 1))
          case rel => exact ⟨k + 1, by omega, rfl, by go_num, by rw [HR.out], rfl⟩
          case measure => omega
    · obtain rfl : m = k := by omega
      have hv := nv_le 0 (QE.out _ (Nat.le_refl _))
      go_wp2
      go_ret2
      exact ⟨0, by rw [hv]; rfl, b2⟩
theorem k_EnergyOfPipe (a1 : Option Addr) (n1 c1 : Nat) (rs1 : List Rg) (a2 : Option Addr) (n2 c2 : Nat) (rs2 : List Rg) (a3 : Option Addr) (n3 c3 : Nat) (xs3 : List Nat) (k : Int) (f0 f1 f2 f3 f4 : Nat) (op : Bool) (x1 x2 x3 : Nat) (w : World) (h1 : RS w a1 n1 c1 rs1) (h2 : RS w a2 n2 c2 rs2) (h3 : FS w a3 n3 c3 xs3) :
    Calls Try.prog 6 #[.agg #[.slice a1 n1 c1, .slice a2 n2 c2, .slice a3 n3 c3, .int .i64 k, .float .f32 f0, .float .f32 f1, .float .f32 f2, .float .f32 f3, .float .f32 f4, .bool op, .float .f32 x1, .float .f32 x2, .float .f32 x3]] w (RetV (.bool true) w) := by
  cases hv : pipeB n1 rs1 n2 rs2 n3 xs3 ⟨k, f0, f1, f2, f3, f4, x1, x2, x3⟩
  · exact l_EnergyOfPipe a1 n1 c1 rs1 a2 n2 c2 rs2 a3 n3 c3 xs3 k f0 f1 f2 f3 f4 op x1 x2 x3 0 1 w h1 h2 h3
      (fun W d1 d2 d3 e1 e2 e3 ss1 ss2 r1 r2 r3 s1 s2 => c_sEnergyOfPipe_no d1 n1 e1 ss1 d2 n2 e2 ss2 d3 n3 e3 xs3 ⟨k, f0, f1, f2, f3, f4, x1, x2, x3⟩ op W r1 r2 r3 (by rw [pipeB_same s1 s2]; exact hv))
      (fun W d1 d2 d3 e1 e2 e3 ss1 ss2 r1 r2 r3 s1 s2 => c_EnergyOfPipe_no d1 n1 e1 ss1 d2 n2 e2 ss2 d3 n3 e3 xs3 ⟨k, f0, f1, f2, f3, f4, x1, x2, x3⟩ op W r1 r2 r3 (by rw [pipeB_same s1 s2]; exact hv))
  · have HO := pipeB_yes hv
    exact l_EnergyOfPipe a1 n1 c1 rs1 a2 n2 c2 rs2 a3 n3 c3 xs3 k f0 f1 f2 f3 f4 op x1 x2 x3 (enP rs1 rs2 n1) 0 w h1 h2 h3
      (fun W d1 d2 d3 e1 e2 e3 ss1 ss2 r1 r2 r3 s1 s2 => by rw [← enP_same s1 (HO.eq ▸ s2)]; exact c_sEnergyOfPipe_ok d1 n1 e1 ss1 d2 n2 e2 ss2 d3 n3 e3 xs3 ⟨k, f0, f1, f2, f3, f4, x1, x2, x3⟩ op W r1 r2 r3 (by rw [pipeB_same s1 s2]; exact hv))
      (fun W d1 d2 d3 e1 e2 e3 ss1 ss2 r1 r2 r3 s1 s2 => by rw [← enP_same s1 (HO.eq ▸ s2)]; exact c_EnergyOfPipe_ok d1 n1 e1 ss1 d2 n2 e2 ss2 d3 n3 e3 xs3 ⟨k, f0, f1, f2, f3, f4, x1, x2, x3⟩ op W r1 r2 r3 (by rw [pipeB_same s1 s2]; exact hv))
end Go.Proofs.Ytfhegjjgfaeinaa
