
/-
Slices of pointers to rings: what the program's loops over them say.
-/
import Derived.Test.YtfhegjjgfaeinaaAg
import Derived.Test.YtfhegjjgfaeinaaVp
namespace Go.Proofs.Ytfhegjjgfaeinaa
open Go Go.RowKit Fl
/-- the rings of both lists, in turn -/
def inter (rs ss : List Rg) : Nat → List Rg
  | 0 => []
  | k + 1 => inter rs ss k ++ [rat rs k, rat ss k]
theorem inter_len (rs ss : List Rg) : ∀ k, (inter rs ss k).length = 2 * k
  | 0 => rfl
  | k + 1 => by rw [inter, List.length_append, inter_len rs ss k]; simp; omega
theorem rat_app_left {xs ys : List Rg} {j : Nat} (h : j < xs.length) : rat (xs ++ ys) j = rat xs j := by
  unfold rat; rw [List.getD_eq_getElem?_getD, List.getD_eq_getElem?_getD, List.getElem?_append_left h]
theorem rat_app_right {xs ys : List Rg} {j : Nat} (h : xs.length ≤ j) : rat (xs ++ ys) j = rat ys (j - xs.length) := by
  unfold rat; rw [List.getD_eq_getElem?_getD, List.getD_eq_getElem?_getD, List.getElem?_append_right h]
theorem inter_get (rs ss : List Rg) : ∀ k j, j < k → rat (inter rs ss k) (2 * j) = rat rs j ∧ rat (inter rs ss k) (2 * j + 1) = rat ss j
  | 0, j, h => absurd h (by omega)
  | k + 1, j, h => by
    have hl := inter_len rs ss k
    rw [inter]
    by_cases e : j = k
    · subst e
      rw [rat_app_right (by omega), rat_app_right (by omega), hl]
      simp [rat]
    · rw [rat_app_left (by omega), rat_app_left (by omega)]
      exact inter_get rs ss k j (by omega)
theorem rgsZero_app (xs : List Rg) (r s : Rg) : ∀ k, k ≤ xs.length → rgsZero (xs ++ [r, s]) k = rgsZero xs k
  | 0, _ => rfl
  | k + 1, h => by rw [rgsZero, rgsZero, rgsZero_app xs r s k (by omega), rat_app_left (by omega)]
theorem rgsZero_inter (rs ss : List Rg) : ∀ k, rgsZero (inter rs ss k) (2 * k) = (rgsZero rs k && rgsZero ss k)
  | 0 => rfl
  | k + 1 => by
    have hl := inter_len rs ss k
    have h := inter_get rs ss (k + 1) k (by omega)
    rw [show 2 * (k + 1) = 2 * k + 1 + 1 by omega, rgsZero, rgsZero, h.1, h.2]
    rw [inter, rgsZero_app _ _ _ _ (by omega), rgsZero_inter rs ss k, rgsZero, rgsZero]
    cases rgsZero rs k <;> cases rgsZero ss k <;> simp
theorem rgSum_app (xs : List Rg) (r s : Rg) : ∀ k, k ≤ xs.length → rgSum (xs ++ [r, s]) k = rgSum xs k
  | 0, _ => rfl
  | k + 1, h => by rw [rgSum, rgSum, rgSum_app xs r s k (by omega), rat_app_left (by omega)]
theorem rgSum_inter (rs ss : List Rg) : ∀ k, rgSum (inter rs ss k) (2 * k) = rgSum rs k + rgSum ss k
  | 0 => rfl
  | k + 1 => by
    have hl := inter_len rs ss k
    have h := inter_get rs ss (k + 1) k (by omega)
    rw [show 2 * (k + 1) = 2 * k + 1 + 1 by omega, rgSum, rgSum, h.1, h.2]
    rw [inter, rgSum_app _ _ _ _ (by omega), rgSum_inter rs ss k, rgSum, rgSum]
    omega
/-- a slice of pointers to rings -/
structure PS (w : World) (g m c : Nat) (qs : List Rg) : Prop where
  lt : g < w.heap.size
  cap : m ≤ c
  big : c ≤ 9223372036854775807
  at_ : ∀ j, j < m → ∃ b o, w.cell? ⟨g, j, none⟩ = some (.pointer (some ⟨b, o, none⟩)) ∧ b < w.heap.size ∧ RAt w b o (rat qs j)
theorem PS.below {w w' : World} {g m c B : Nat} {qs : List Rg} (h : PS w g m c qs) (hb : Below B w w') (hB : w.heap.size ≤ B) : PS w' g m c qs :=
  ⟨Nat.lt_of_lt_of_le h.lt hb.size, h.cap, h.big, fun j hj => by
    obtain ⟨b, o, h1, h2, h3⟩ := h.at_ j hj
    exact ⟨b, o, by rw [hb.cell (p := ⟨g, j, none⟩) (Nat.lt_of_lt_of_le h.lt hB)]; exact h1, Nat.lt_of_lt_of_le h2 hb.size, h3.below hb hB h2⟩⟩
theorem half (j : Nat) : j = 2 * (j / 2) ∨ j = 2 * (j / 2) + 1 := by omega
theorem c_ringsP (b : Nat) (a1 a2 : Option Addr) (c1 c2 n : Nat) (rs1 rs2 : List Rg) (w : World) (e0 : w.cell? ⟨b, 0, none⟩ = some (.slice a1 n c1)) (e1 : w.cell? ⟨b, 1, none⟩ = some (.slice a2 n c2)) (hb : b < w.heap.size) (h1 : RS w a1 n c1 rs1) (h2 : RS w a2 n c2 rs2) (h0 : 0 < n) (hn : n ≤ 1000) :
    Calls Try.prog 86 #[.pointer (some ⟨b, 0, none⟩)] w (fun e w' => ∃ g c, e = .returned (.slice (some ⟨g, 0, none⟩) (2 * n) c) ∧ Below w.heap.size w w' ∧ PS w' g (2 * n) c (inter rs1 rs2 n)) := by
  obtain ⟨b1, o1, rfl, hl1, g1⟩ := h1.at_ h0
  obtain ⟨b2, o2, rfl, hl2, g2⟩ := h2.at_ h0
  refine (c_rings b b1 o1 c1 b2 o2 c2 n w e0 e1 hb hn).mono ?_
  rintro e w' ⟨v, rfl, hb', ho⟩
  obtain ⟨g, c, rfl, hbg, hgl, hc, hcm, hcell⟩ := own_cells ho (by omega)
  refine ⟨g, c, rfl, hb', hgl, hc, hcm, fun j hj => ?_⟩
  have P := ptrs_get b1 o1 b2 o2 n (j / 2) (by omega)
  have I := inter_get rs1 rs2 n (j / 2) (by omega)
  rcases half j with e | e
  · refine ⟨b1, o1 + j / 2 * 2, hcell _ _ (by rw [e]; simpa using P.1), Nat.lt_of_lt_of_le hl1 hb'.size, ?_⟩
    rw [show rat (inter rs1 rs2 n) j = rat rs1 (j / 2) by rw [← I.1, ← e]]
    exact (g1 _ (by omega)).below hb' (Nat.le_refl _) hl1
  · refine ⟨b2, o2 + j / 2 * 2, hcell _ _ (by have := P.2; rwa [← e] at this), Nat.lt_of_lt_of_le hl2 hb'.size, ?_⟩
    rw [show rat (inter rs1 rs2 n) j = rat rs2 (j / 2) by rw [← I.2, ← e]]
    exact (g2 _ (by omega)).below hb' (Nat.le_refl _) hl2
/-! ### are rings quiet -/
theorem c_notQuiet (b o : Nat) (r : Rg) (w : World) (h : RAt w b o r) (hr : ringB r.n r.i = true) :
    Calls Try.prog 139 #[.pointer (some ⟨b, o, none⟩)] w (RetV (.bool (!zeroTo r.xs r.n)) w) := by
  have HF := Lib.hid h.fs
  have HR := Lib.hid hr
  have e0 := h.c0
  have e1 := h.c1
  clear h hr
  go_enter Try.func139, Try.ntmps139
  go_wp2_with fail
  refine (c_isQuiet _ _ _ _ _ _ HF.out HR.out).mono ?_
  rintro e w1 ⟨rfl, hb1⟩
  go_wp2
  go_ret
  exact ⟨rfl, hb1⟩
def RetIdxV (b : Bool) (w : World) (e : Ending) (w' : World) : Prop := ∃ i : Int, e = .returned (.int .i64 i) ∧ decide (0 ≤ i) = b ∧ Below w.heap.size w w'
theorem c_IndexFuncQ (g m c : Nat) (qs : List Rg) (w : World) (h : PS w g m c qs) (hr : ∀ j, j < m → ringB (rat qs j).n (rat qs j).i = true) :
    Calls Try.prog 157 #[.slice (some ⟨g, 0, none⟩) m c, .func (.func 139) #[] #[]] w (RetIdxV (!rgsZero qs m) w) := by
  have H := Lib.hid h
  have hcap := h.cap
  have hbig := h.big
  have HR := Lib.hid hr
  clear h hr
  go_enter Try.func157, Try.ntmps157
  go_wp2
  go_loopw [8] (fun i wr => ∃ k : Nat, k ≤ m ∧ i = .int .i64 k ∧ Hid (rgsZero qs k = true) ∧ Below w.heap.size w wr) (fun i _ => m - (intOf i).toNat)
  case atStart => exact ⟨0, by omega, rfl, rfl, Below.refl _ _⟩
  case round =>
    obtain ⟨k, hk, rfl, hall, hbe⟩ := hrel
    have HB := Lib.hid hbe
    by_cases hlt : k < m
    · obtain ⟨b, o, hc, hbl, hra⟩ := (H.out.below hbe (Nat.le_refl _)).at_ k hlt
      have HC := Lib.hid (c_notQuiet b o _ wr hra (HR.out k hlt))
      clear hra hbe
      cases hf : zeroTo (rat qs k).xs (rat qs k).n
      · rw [hf] at HC
        have HU := Lib.hid (rgsZero_false hf m hlt)
        clear hf
        go_wp2_with fail
        refine HC.out.mono ?_
        rintro e w1 ⟨rfl, hb1⟩
        go_wp2
        go_ret
        exact ⟨k, rfl, by rw [HU.out]; simp, HB.out.trans (hb1.mono HB.out.size)⟩
      · rw [hf] at HC
        have HU : Hid (rgsZero qs (k + 1) = true) := by rw [rgsZero, hall.out, hf]; rfl
        clear hf
        go_wp2_with fail
        refine HC.out.mono ?_
        rintro e w1 ⟨rfl, hb1⟩
        go_wp2
        go_roundw
        case rel => exact ⟨k + 1, by omega, by go_num, HU, HB.out.trans (hb1.mono HB.out.size)⟩
        case measure => simp [intOf]; omega
    · obtain rfl : m = k := by omega
      go_wp2
      go_ret
      exact ⟨-1, rfl, by rw [hall.out]; rfl, HB.out⟩
theorem c_areQuiet (g m c : Nat) (qs : List Rg) (w : World) (h : PS w g m c qs) (hr : ∀ j, j < m → ringB (rat qs j).n (rat qs j).i = true) :
    Calls Try.prog 92 #[.slice (some ⟨g, 0, none⟩) m c] w (RetV (.bool (rgsZero qs m)) w) := by
  have HC : Calls Try.prog 138 #[.slice (some ⟨g, 0, none⟩) m c, .func (.func 139) #[] #[]] w (RetV (.bool (!rgsZero qs m)) w) := by
    have H := Lib.hid (c_IndexFuncQ g m c qs w h hr)
    clear h hr
    go_enter Try.func138, Try.ntmps138
    go_wp2_with fail
    refine H.out.mono ?_
    rintro e w' ⟨i, rfl, hi, hb1⟩
    go_wp2
    go_ret
    exact ⟨by rw [← hi]; simp, hb1⟩
  have H := Lib.hid HC
  clear h hr HC
  go_enter Try.func92, Try.ntmps92
  go_wp2_with fail
  refine H.out.mono ?_
  rintro e w' ⟨rfl, hb1⟩
  go_wp2
  go_ret
  exact ⟨by simp, hb1⟩
/-! ### what a valid pipe is -/
theorem rgsTo_nth {rs : List Rg} : ∀ {n : Nat}, rgsTo rs n = true → ∀ j, j < n → (rat rs j).ok = true
  | 0, _, j, h => absurd h (by omega)
  | n + 1, h, j, hj => by
    rw [rgsTo, Bool.and_eq_true] at h
    by_cases e : j = n
    · subst e; exact h.2
    · exact rgsTo_nth h.1 j (by omega)
theorem ok_ring {r : Rg} (h : r.ok = true) : ringB r.n r.i = true := by
  unfold Rg.ok at h; rw [Bool.and_eq_true] at h; exact h.1
theorem lenTo_nth {rs ss : List Rg} : ∀ {n : Nat}, lenTo rs ss n = true → ∀ j, j < n → (rat rs j).n = (rat ss j).n
  | 0, _, j, h => absurd h (by omega)
  | n + 1, h, j, hj => by
    rw [lenTo, Bool.and_eq_true] at h
    by_cases e : j = n
    · subst e; have := of_decide_eq_true h.2; omega
    · exact lenTo_nth h.1 j (by omega)
structure PipeOk (n1 : Nat) (rs1 : List Rg) (n2 : Nat) (rs2 : List Rg) : Prop where
  lo : 1 ≤ n1
  hi : n1 ≤ 3
  eq : n2 = n1
  r1 : ∀ j, j < n1 → (rat rs1 j).ok = true
  r2 : ∀ j, j < n1 → (rat rs2 j).ok = true
  len : ∀ j, j < n1 → (rat rs1 j).n = (rat rs2 j).n
theorem pipeB_yes {n1 : Nat} {rs1 : List Rg} {n2 : Nat} {rs2 : List Rg} {n3 : Nat} {xs3 : List Nat} {p : Pn} (h : pipeB n1 rs1 n2 rs2 n3 xs3 p = true) : PipeOk n1 rs1 n2 rs2 := by
  unfold pipeB at h
  simp only [Bool.and_eq_true] at h
  obtain ⟨h1, h2, h3, h4, h5, h6, _⟩ := h
  have i1 := inB_yes h1
  have i2 := of_decide_eq_true h2
  exact ⟨by omega, by omega, by omega, rgsTo_nth h4, rgsTo_nth h5, lenTo_nth h6⟩
theorem inter_ok {rs ss : List Rg} {n : Nat} (h1 : ∀ j, j < n → (rat rs j).ok = true) (h2 : ∀ j, j < n → (rat ss j).ok = true) : ∀ j, j < 2 * n → (rat (inter rs ss n) j).ok = true := fun j hj => by
  have I := inter_get rs ss n (j / 2) (by omega)
  rcases half j with e | e
  · rw [e, I.1]; exact h1 _ (by omega)
  · rw [e, I.2]; exact h2 _ (by omega)
end Go.Proofs.Ytfhegjjgfaeinaa
