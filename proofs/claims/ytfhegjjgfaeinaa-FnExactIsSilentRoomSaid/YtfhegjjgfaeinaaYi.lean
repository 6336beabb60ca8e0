
/-
The program's test of taps.
-/
import Derived.Test.YtfhegjjgfaeinaaYv
import Derived.Test.YtfhegjjgfaeinaaQu
namespace Go.Proofs.Ytfhegjjgfaeinaa
open Go Go.RowKit Fl
theorem infoFt : (Try.prog.info? 34).map (fun i => i.size) = some 6 := by kernel_rfl
@[go_sem] theorem ix_ring0 (a0 a1 a2 a3 a4 a5 a6 a7 : Value) (W : World) : (Instr.index 47 (.agg #[a0, a1, a2, a3, a4, a5, a6, a7]) (.int .i64 0)).run Try.prog W = .ok (.agg #[a0, a1]) W := by
  obtain ⟨i, hi, hz, hsz, hby⟩ := info_parts infoR
  simp [Instr.index, run_underlying Try.underlying47, asIntOf, sizeOf, typeInfo, hi, hsz, go_sem]
@[go_sem] theorem ix_ring1 (a0 a1 a2 a3 a4 a5 a6 a7 : Value) (W : World) : (Instr.index 47 (.agg #[a0, a1, a2, a3, a4, a5, a6, a7]) (.int .i64 1)).run Try.prog W = .ok (.agg #[a2, a3]) W := by
  obtain ⟨i, hi, hz, hsz, hby⟩ := info_parts infoR
  simp [Instr.index, run_underlying Try.underlying47, asIntOf, sizeOf, typeInfo, hi, hsz, go_sem]
@[go_sem] theorem ix_ring2 (a0 a1 a2 a3 a4 a5 a6 a7 : Value) (W : World) : (Instr.index 47 (.agg #[a0, a1, a2, a3, a4, a5, a6, a7]) (.int .i64 2)).run Try.prog W = .ok (.agg #[a4, a5]) W := by
  obtain ⟨i, hi, hz, hsz, hby⟩ := info_parts infoR
  simp [Instr.index, run_underlying Try.underlying47, asIntOf, sizeOf, typeInfo, hi, hsz, go_sem]
@[go_sem] theorem ix_ring3 (a0 a1 a2 a3 a4 a5 a6 a7 : Value) (W : World) : (Instr.index 47 (.agg #[a0, a1, a2, a3, a4, a5, a6, a7]) (.int .i64 3)).run Try.prog W = .ok (.agg #[a6, a7]) W := by
  obtain ⟨i, hi, hz, hsz, hby⟩ := info_parts infoR
  simp [Instr.index, run_underlying Try.underlying47, asIntOf, sizeOf, typeInfo, hi, hsz, go_sem]
@[go_sem] theorem ix_filt0 (a0 a1 a2 a3 a4 a5 a6 a7 a8 a9 a10 a11 a12 a13 a14 a15 a16 a17 a18 a19 a20 a21 a22 a23 : Value) (W : World) : (Instr.index 48 (.agg #[a0, a1, a2, a3, a4, a5, a6, a7, a8, a9, a10, a11, a12, a13, a14, a15, a16, a17, a18, a19, a20, a21, a22, a23]) (.int .i64 0)).run Try.prog W = .ok (.agg #[a0, a1, a2, a3, a4, a5]) W := by
  cases hi : Try.prog.info? 34 with
  | none => have := infoFt; rw [hi] at this; cases this
  | some i =>
    have hsz : i.size = 6 := by have := infoFt; rw [hi] at this; exact Option.some.inj this
    simp [Instr.index, run_underlying Try.underlying48, asIntOf, sizeOf, typeInfo, hi, hsz, go_sem]
@[go_sem] theorem ix_filt1 (a0 a1 a2 a3 a4 a5 a6 a7 a8 a9 a10 a11 a12 a13 a14 a15 a16 a17 a18 a19 a20 a21 a22 a23 : Value) (W : World) : (Instr.index 48 (.agg #[a0, a1, a2, a3, a4, a5, a6, a7, a8, a9, a10, a11, a12, a13, a14, a15, a16, a17, a18, a19, a20, a21, a22, a23]) (.int .i64 1)).run Try.prog W = .ok (.agg #[a6, a7, a8, a9, a10, a11]) W := by
  cases hi : Try.prog.info? 34 with
  | none => have := infoFt; rw [hi] at this; cases this
  | some i =>
    have hsz : i.size = 6 := by have := infoFt; rw [hi] at this; exact Option.some.inj this
    simp [Instr.index, run_underlying Try.underlying48, asIntOf, sizeOf, typeInfo, hi, hsz, go_sem]
@[go_sem] theorem ix_filt2 (a0 a1 a2 a3 a4 a5 a6 a7 a8 a9 a10 a11 a12 a13 a14 a15 a16 a17 a18 a19 a20 a21 a22 a23 : Value) (W : World) : (Instr.index 48 (.agg #[a0, a1, a2, a3, a4, a5, a6, a7, a8, a9, a10, a11, a12, a13, a14, a15, a16, a17, a18, a19, a20, a21, a22, a23]) (.int .i64 2)).run Try.prog W = .ok (.agg #[a12, a13, a14, a15, a16, a17]) W := by
  cases hi : Try.prog.info? 34 with
  | none => have := infoFt; rw [hi] at this; cases this
  | some i =>
    have hsz : i.size = 6 := by have := infoFt; rw [hi] at this; exact Option.some.inj this
    simp [Instr.index, run_underlying Try.underlying48, asIntOf, sizeOf, typeInfo, hi, hsz, go_sem]
@[go_sem] theorem ix_filt3 (a0 a1 a2 a3 a4 a5 a6 a7 a8 a9 a10 a11 a12 a13 a14 a15 a16 a17 a18 a19 a20 a21 a22 a23 : Value) (W : World) : (Instr.index 48 (.agg #[a0, a1, a2, a3, a4, a5, a6, a7, a8, a9, a10, a11, a12, a13, a14, a15, a16, a17, a18, a19, a20, a21, a22, a23]) (.int .i64 3)).run Try.prog W = .ok (.agg #[a18, a19, a20, a21, a22, a23]) W := by
  cases hi : Try.prog.info? 34 with
  | none => have := infoFt; rw [hi] at this; cases this
  | some i =>
    have hsz : i.size = 6 := by have := infoFt; rw [hi] at this; exact Option.some.inj this
    simp [Instr.index, run_underlying Try.underlying48, asIntOf, sizeOf, typeInfo, hi, hsz, go_sem]
def RetIdxT (b : Bool) (w : World) (e : Ending) (w' : World) : Prop := ∃ i : Int, e = .returned (.int .i64 i) ∧ decide (0 ≤ i) = b ∧ Below w.heap.size w w'
theorem c_isTap (t : Int × Nat) (n : Nat) (w : World) : Calls Try.prog 114 #[.agg #[.int .i64 t.1, .float .f32 t.2], .int .i64 n] w (RetV (.bool (tapB t n)) w) := by
  have KI : Hid (∀ W, Calls Try.prog 49 #[.int .i64 t.1, .int .i64 1, .int .i64 n] W (RetB (inB t.1 1 n) W)) := fun W => c_within _ _ _ W
  have KF : Hid (∀ W, Calls Try.prog 67 #[.float .f32 t.2] W (RetB (finB t.2) W)) := fun W => c_isFinite _ W
  have hD : tapB t n = (inB t.1 1 n && finB t.2) := rfl
  rw [hD]
  clear hD
  cases o1 : inB t.1 1 n
  · rw [o1] at KI
    clear o1
    go_enter Try.func114, Try.ntmps114
    go_wp2_with fail
    refine (KI.out _).mono ?_
    rintro e w' ⟨rfl, d1, rfl⟩
    go_wp2
    go_ret
    exact ⟨rfl, by (repeat (first | (with_reducible refine Below.drewN ?_) | (with_reducible refine Below.drew ?_) | ((with_reducible refine Below.alloc ?_ ?_ _); rotate_left; (first | omega | (simp <;> omega))) | ((with_reducible refine Below.setCell ?_ ?_ _); rotate_left; (first | omega | (simp <;> omega))) | (with_reducible exact Below.refl _ _) | (with_reducible assumption)))⟩
  rw [o1] at KI
  clear o1
  go_enter Try.func114, Try.ntmps114
  go_wp2_with fail
  refine (KI.out _).mono ?_
  rintro e w' ⟨rfl, d1, rfl⟩
  go_wp2_with fail
  refine (KF.out _).mono ?_
  rintro e w' ⟨rfl, d2, rfl⟩
  go_wp2
  go_ret
  exact ⟨rfl, by (repeat (first | (with_reducible refine Below.drewN ?_) | (with_reducible refine Below.drew ?_) | ((with_reducible refine Below.alloc ?_ ?_ _); rotate_left; (first | omega | (simp <;> omega))) | ((with_reducible refine Below.setCell ?_ ?_ _); rotate_left; (first | omega | (simp <;> omega))) | (with_reducible exact Below.refl _ _) | (with_reducible assumption)))⟩
theorem c_notTap (b : Nat) (a : Option Addr) (n c : Nat) (t : Int × Nat) (w : World) (e0 : w.cell? ⟨b, 0, none⟩ = some (.slice a n c)) (hb : b < w.heap.size) :
    Calls Try.prog 113 #[.agg #[.int .i64 t.1, .float .f32 t.2], .pointer (some ⟨b, 0, none⟩)] w (RetV (.bool (!tapB t n)) w) := by
  go_enter Try.func113, Try.ntmps113
  go_wp2_with fail
  refine wp_region_grow [] [] (by kernel_rfl) (by kernel_rfl) (by kernel_rfl) ?_
  apply Exists.intro
  iterate 4 (apply lh_o; kernel_rfl; kernel_rfl; kernel_rfl; (intro W hW; have hWc := Grow.cells hW; go_simp; exact ⟨OneV.mk _, Grow.refl _⟩))
  (apply lh_o; kernel_rfl; kernel_rfl; kernel_rfl; (intro W hW; go_simp; first | exact gB (c_lengthV _ _ _ _) | exact gV (c_lengthV _ _ _ _)))
  (apply lh_o; kernel_rfl; kernel_rfl; kernel_rfl; (intro W hW; go_simp; first | exact gB (c_isTap t n _) | exact gV (c_isTap t n _)))
  iterate 2 (apply lh_o; kernel_rfl; kernel_rfl; kernel_rfl; (intro W hW; have hWc := Grow.cells hW; go_simp; exact ⟨OneV.mk _, Grow.refl _⟩))
  (refine lh_nil ?_; intro W hW; simp only [Act.put, List.setIfInBounds_toArray, List.set_cons_succ, List.set_cons_zero])
  go_wp2
  go_ret
  exact ⟨rfl, Below.trans (by (repeat (first | (with_reducible refine Below.drewN ?_) | (with_reducible refine Below.drew ?_) | ((with_reducible refine Below.alloc ?_ ?_ _); rotate_left; (first | omega | (simp <;> omega))) | ((with_reducible refine Below.setCell ?_ ?_ _); rotate_left; (first | omega | (simp <;> omega))) | (with_reducible exact Below.refl _ _) | (with_reducible assumption)))) (Below.mono hW (by simp))⟩
theorem c_IndexFuncT (b : Nat) (a : Option Addr) (n c : Nat) (at2 : Option Addr) (m c2 : Nat) (ts : List (Int × Nat)) (w : World) (h : TS w at2 m c2 ts) (e0 : w.cell? ⟨b, 0, none⟩ = some (.slice a n c)) (hb : b < w.heap.size) :
    Calls Try.prog 152 #[.slice at2 m c2, .func (.func 113) #[] #[.pointer (some ⟨b, 0, none⟩)]] w (RetIdxT (!tapTo ts n m) w) := by
  have HA := Lib.hid h.at_
  have hcap := h.cap
  have hbig := h.big
  clear h
  go_enter Try.func152, Try.ntmps152
  go_wp2
  go_loopw [8] (fun i wr => ∃ k : Nat, k ≤ m ∧ i = .int .i64 k ∧ Hid (tapTo ts n k = true) ∧ Below w.heap.size w wr) (fun i _ => m - (intOf i).toNat)
  case atStart => exact ⟨0, by omega, rfl, rfl, Below.refl _ _⟩
  case round =>
    obtain ⟨k, hk, rfl, hall, hbe⟩ := hrel
    have HB := Lib.hid hbe
    by_cases hlt : k < m
    · obtain ⟨bt, ot, rfl, hbt, hct⟩ := HA.out (by omega)
      have x0 := (hbe.cell (p := ⟨bt, ot + k * 2, none⟩) hbt).trans (hct k hlt).1
      have x1 := (hbe.cell (p := ⟨bt, ot + k * 2 + 1, none⟩) hbt).trans (hct k hlt).2
      have HC : Hid (∀ W, Below wr.heap.size wr W → Calls Try.prog 113 #[.agg #[.int .i64 (tat ts k).1, .float .f32 (tat ts k).2], .pointer (some ⟨b, 0, none⟩)] W (RetV (.bool (!tapB (tat ts k) n)) W)) := fun W hW => c_notTap b a n c (tat ts k) W (((hbe.trans (hW.mono hbe.size)).cell (p := ⟨b, 0, none⟩) hb).trans e0) (Nat.lt_of_lt_of_le hb (hbe.trans (hW.mono hbe.size)).size)
      have hT : tapTo ts n (k + 1) = (tapTo ts n k && tapB (tat ts k) n) := rfl
      clear hct hbe
      cases hf : tapB (tat ts k) n
      · rw [hf] at HC
        have HU := Lib.hid (tapTo_false hf m hlt)
        clear hf hT
        go_wp2_with fail
        refine (HC.out _ (by (repeat (first | (with_reducible refine Below.drewN ?_) | (with_reducible refine Below.drew ?_) | ((with_reducible refine Below.alloc ?_ ?_ _); rotate_left; (first | omega | (simp <;> omega))) | ((with_reducible refine Below.setCell ?_ ?_ _); rotate_left; (first | omega | (simp <;> omega))) | (with_reducible exact Below.refl _ _) | (with_reducible assumption))))).mono ?_
        rintro e w1 ⟨rfl, hb1⟩
        go_wp2
        go_ret
        exact ⟨k, rfl, by rw [HU.out]; simp, HB.out.trans (Below.trans (by (repeat (first | (with_reducible refine Below.drewN ?_) | (with_reducible refine Below.drew ?_) | ((with_reducible refine Below.alloc ?_ ?_ _); rotate_left; (first | omega | (simp <;> omega))) | ((with_reducible refine Below.setCell ?_ ?_ _); rotate_left; (first | omega | (simp <;> omega))) | (with_reducible exact Below.refl _ _) | (with_reducible assumption)))) (hb1.mono (by first | omega | simp)) |>.mono HB.out.size)⟩
      · rw [hf] at HC
        have HU : Hid (tapTo ts n (k + 1) = true) := by rw [hT, hall.out, hf]; rfl
        clear hf hT
        go_wp2_with fail
        refine (HC.out _ (by (repeat (first | (with_reducible refine Below.drewN ?_) | (with_reducible refine Below.drew ?_) | ((with_reducible refine Below.alloc ?_ ?_ _); rotate_left; (first | omega | (simp <;> omega))) | ((with_reducible refine Below.setCell ?_ ?_ _); rotate_left; (first | omega | (simp <;> omega))) | (with_reducible exact Below.refl _ _) | (with_reducible assumption))))).mono ?_
        rintro e w1 ⟨rfl, hb1⟩
        have HB1 : Hid (Below w.heap.size w w1) := HB.out.trans ((Below.trans (by (repeat (first | (with_reducible refine Below.drewN ?_) | (with_reducible refine Below.drew ?_) | ((with_reducible refine Below.alloc ?_ ?_ _); rotate_left; (first | omega | (simp <;> omega))) | ((with_reducible refine Below.setCell ?_ ?_ _); rotate_left; (first | omega | (simp <;> omega))) | (with_reducible exact Below.refl _ _) | (with_reducible assumption)))) (hb1.mono (by first | omega | simp)) : Below wr.heap.size wr w1).mono HB.out.size)
        go_wp2
        go_roundw
        case rel => exact ⟨k + 1, by omega, by go_num, HU, HB1.out⟩
        case measure => simp [intOf]; omega
    · obtain rfl : m = k := by omega
      go_wp2
      go_ret
      exact ⟨-1, rfl, by rw [hall.out]; rfl, HB.out⟩
theorem c_ContainsFuncT (b : Nat) (a : Option Addr) (n c : Nat) (at2 : Option Addr) (m c2 : Nat) (ts : List (Int × Nat)) (w : World) (h : TS w at2 m c2 ts) (e0 : w.cell? ⟨b, 0, none⟩ = some (.slice a n c)) (hb : b < w.heap.size) :
    Calls Try.prog 112 #[.slice at2 m c2, .func (.func 113) #[] #[.pointer (some ⟨b, 0, none⟩)]] w (RetV (.bool (!tapTo ts n m)) w) := by
  have H := Lib.hid (c_IndexFuncT b a n c at2 m c2 ts w h e0 hb)
  clear h e0 hb
  go_enter Try.func112, Try.ntmps112
  go_wp2_with fail
  refine H.out.mono ?_
  rintro e w' ⟨i, rfl, hi, hb1⟩
  go_wp2
  go_ret
  exact ⟨by rw [← hi]; simp, hb1⟩
end Go.Proofs.Ytfhegjjgfaeinaa
