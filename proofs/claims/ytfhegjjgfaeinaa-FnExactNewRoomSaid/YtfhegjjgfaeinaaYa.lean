
/-
Slices of taps: the laws' own helpers over them.
-/
import Derived.Test.YtfhegjjgfaeinaaRc
namespace Go.Proofs.Ytfhegjjgfaeinaa
open Go Go.RowKit Fl
def tat (ts : List (Int × Nat)) (j : Nat) : Int × Nat := ts.getD j (0, 0)
/-- a slice of taps -/
structure TS (w : World) (a : Option Addr) (n c : Nat) (ts : List (Int × Nat)) : Prop where
  cap : n ≤ c
  big : c ≤ 9223372036854775807
  at_ : 0 < n → ∃ b o, a = some ⟨b, o, none⟩ ∧ b < w.heap.size ∧ ∀ j, j < n → w.cell? ⟨b, o + j * 2, none⟩ = some (.int .i64 (tat ts j).1) ∧ w.cell? ⟨b, o + j * 2 + 1, none⟩ = some (.float .f32 (tat ts j).2)
theorem TS.same {w w' : World} {a : Option Addr} {n c : Nat} {ts : List (Int × Nat)} (h : TS w a n c ts) (hs : w.heap.size ≤ w'.heap.size) (hb : ∀ b o, a = some ⟨b, o, none⟩ → b < w.heap.size → w'.heap[b]? = w.heap[b]?) : TS w' a n c ts :=
  ⟨h.cap, h.big, fun hn => by
    obtain ⟨b, o, ha, hbl, hc⟩ := h.at_ hn
    have e := hb b o ha hbl
    exact ⟨b, o, ha, Nat.lt_of_lt_of_le hbl hs, fun j hj => ⟨(cell_same e _).trans (hc j hj).1, (cell_same e _).trans (hc j hj).2⟩⟩⟩
theorem TS.below {w w' : World} {a : Option Addr} {n c B : Nat} {ts : List (Int × Nat)} (h : TS w a n c ts) (hb : Below B w w') (hB : w.heap.size ≤ B) : TS w' a n c ts :=
  h.same hb.size (fun b _ _ hl => hb.block b (Nat.lt_of_lt_of_le hl hB))
theorem c_szTapS_ok (a : Option Addr) (n c : Nat) (left : Int) (w : World) (hn : n ≤ 9223372036854775807) (h1 : left ≤ 1048576) (hs : (n : Int) ≤ left) :
    Calls Try.prog 95 #[.slice a n c, .int .i64 left] w (RetV (.int .i64 (left - n)) w) := by
  have hl : ¬ (left - n < 0) := by omega
  go_enter Try.func95, Try.ntmps95
  go_wp2
  go_ret
  exact ⟨rfl, by (repeat (first | (with_reducible refine Below.drewN ?_) | (with_reducible refine Below.drew ?_) | ((with_reducible refine Below.alloc ?_ ?_ _); rotate_left; (first | omega | (simp <;> omega))) | ((with_reducible refine Below.setCell ?_ ?_ _); rotate_left; (first | omega | (simp <;> omega))) | (with_reducible exact Below.refl _ _) | (with_reducible assumption)))⟩
theorem c_szTapS_no (a : Option Addr) (n c : Nat) (left : Int) (w : World) (hn : n ≤ 9223372036854775807) (h0 : 0 ≤ left) (h1 : left ≤ 1048576) (hs : left < (n : Int)) :
    Calls Try.prog 95 #[.slice a n c, .int .i64 left] w (RetV (.int .i64 (-1)) w) := by
  have hl : left - n < 0 := by omega
  go_enter Try.func95, Try.ntmps95
  go_wp2
  go_ret
  exact ⟨rfl, by (repeat (first | (with_reducible refine Below.drewN ?_) | (with_reducible refine Below.drew ?_) | ((with_reducible refine Below.alloc ?_ ?_ _); rotate_left; (first | omega | (simp <;> omega))) | ((with_reducible refine Below.setCell ?_ ?_ _); rotate_left; (first | omega | (simp <;> omega))) | (with_reducible exact Below.refl _ _) | (with_reducible assumption)))⟩
theorem c_toTap (i : Int) (x : Nat) (w : World) : Calls Try.prog 147 #[.agg #[.int .i64 i, .float .f32 x]] w (RetV (.agg #[.int .i64 i, .float .f32 x]) w) := by
  go_enter Try.func147, Try.ntmps147
  go_wp2
  exact bodyPost_ret (v := .agg #[.int .i64 i, .float .f32 x]) (by simp [results, Try.results147, go_sem]) rfl ⟨rfl, by (repeat (first | (with_reducible refine Below.drewN ?_) | (with_reducible refine Below.drew ?_) | ((with_reducible refine Below.alloc ?_ ?_ _); rotate_left; (first | omega | (simp <;> omega))) | ((with_reducible refine Below.setCell ?_ ?_ _); rotate_left; (first | omega | (simp <;> omega))) | (with_reducible exact Below.refl _ _) | (with_reducible assumption)))⟩
theorem infoTap : (Try.prog.info? 145).map (fun i => (i.zero, i.size, i.bytes)) = some (some (.agg #[.int .i64 0, .float .f32 0]), 2, 16) := by kernel_rfl
theorem mk_tap (n : Nat) (hn : n ≤ 1048576) (w : World) : (Instr.makeSlice 43 (.int .i64 n) (.int .i64 n)).run Try.prog w = .ok (.slice (some ⟨w.heap.size, 0, none⟩) n n) (w.alloc (.cells (madeCells #[.int .i64 0, .float .f32 0] (n * 2)) 145)) := by
  obtain ⟨i, hi, hz, hsz, hby⟩ := info_parts infoTap
  have := run_make (P := Try.prog) w 43 145 i (.agg #[.int .i64 0, .float .f32 0]) Try.underlying43 hi hz .i64 .i64 n n (by omega) (by omega) (by rw [hby]; omega) (by omega)
  rw [this, hsz]
  simp only [Int.toNat_natCast]
  rfl
structure TPB (w0 w : World) (g n k : Nat) (ts : List (Int × Nat)) : Prop where
  below : Below w0.heap.size w0 w
  hg : w0.heap.size ≤ g
  blk : ∃ cs, w.heap[g]? = some (.cells cs 145) ∧ cs.size = n * 2 ∧ ∀ j, j < k → cs[j * 2]? = some (.int .i64 (tat ts j).1) ∧ cs[j * 2 + 1]? = some (.float .f32 (tat ts j).2)
theorem TPB.step {w0 w w1 : World} {g n k : Nat} {ts : List (Int × Nat)} (h : TPB w0 w g n k ts) (hk : k < n) (hb : Below w.heap.size w w1) :
    TPB w0 ((w1.setCell ⟨g, k * 2, none⟩ (.int .i64 (tat ts k).1)).setCell ⟨g, k * 2 + 1, none⟩ (.float .f32 (tat ts k).2)) g n (k + 1) ts := by
  obtain ⟨h1, h2, cs, hc, hs, hr⟩ := h
  have hc1 := blk_below hc hb (Nat.le_refl _)
  have hc2 := blk_set_cs (blk_set_cs hc1 (k * 2) (.int .i64 (tat ts k).1)) (k * 2 + 1) (.float .f32 (tat ts k).2)
  refine ⟨Below.setCell (Below.setCell (h1.trans (hb.mono h1.size)) (by simpa using h2) _) (by simpa using h2) _, h2, _, hc2, by simpa using hs, fun j hj => ?_⟩
  by_cases e : j = k
  · subst e
    refine ⟨?_, ?_⟩
    · rw [Array.getElem?_setIfInBounds_ne (by omega), Array.getElem?_setIfInBounds_self_of_lt (by omega)]
    · rw [Array.getElem?_setIfInBounds_self_of_lt (by simp; omega)]
  · obtain ⟨p1, p2⟩ := hr j (by omega)
    refine ⟨?_, ?_⟩
    · rw [Array.getElem?_setIfInBounds_ne (by omega), Array.getElem?_setIfInBounds_ne (by omega)]; exact p1
    · rw [Array.getElem?_setIfInBounds_ne (by omega), Array.getElem?_setIfInBounds_ne (by omega)]; exact p2
theorem c_toTapS (a : Option Addr) (n c : Nat) (ts : List (Int × Nat)) (w : World) (h : TS w a n c ts) (hn : n ≤ 1048576) :
    Calls Try.prog 100 #[.slice a n c] w (fun e w' => ∃ g, e = .returned (.slice (some ⟨g, 0, none⟩) n n) ∧ Below w.heap.size w w' ∧ w.heap.size ≤ g ∧ TS w' (some ⟨g, 0, none⟩) n n ts) := by
  have HA := Lib.hid h.at_
  have hmk := mk_tap n hn
  clear h
  have R0 : TPB w (w.alloc (.cells (madeCells #[.int .i64 0, .float .f32 0] (n * 2)) 145)) w.heap.size n 0 ts :=
    ⟨by (repeat (first | (with_reducible refine Below.drewN ?_) | (with_reducible refine Below.drew ?_) | ((with_reducible refine Below.alloc ?_ ?_ _); rotate_left; (first | omega | (simp <;> omega))) | ((with_reducible refine Below.setCell ?_ ?_ _); rotate_left; (first | omega | (simp <;> omega))) | (with_reducible exact Below.refl _ _) | (with_reducible assumption))), Nat.le_refl _, _, (MapKept.heap_alloc w _).1, by simp [madeCells], fun j hj => absurd hj (by omega)⟩
  go_enter Try.func100, Try.ntmps100
  go_wp2
  clear hmk
  generalize w.alloc (.cells (madeCells #[.int .i64 0, .float .f32 0] (n * 2)) 145) = w0 at *
  go_loopw [4] (fun i wr => ∃ k : Nat, k ≤ n ∧ i = .int .i64 k ∧ TPB w wr w.heap.size n k ts) (fun i _ => n - (intOf i).toNat)
  case atStart => exact ⟨0, by omega, rfl, R0⟩
  case round =>
    clear R0
    obtain ⟨k, hk, rfl, hB⟩ := hrel
    by_cases hlt : k < n
    · obtain ⟨b, o, rfl, hbl, hcell⟩ := HA.out (by omega)
      have hc0 := (hB.below.cell (p := ⟨b, o + k * 2, none⟩) hbl).trans (hcell k hlt).1
      have hc1 := (hB.below.cell (p := ⟨b, o + k * 2 + 1, none⟩) hbl).trans (hcell k hlt).2
      have hbw := hB.below.size
      have HB := Lib.hid hB
      clear hcell hB
      go_wp2_with fail
      refine (c_toTap _ _ _).mono ?_
      rintro e w1 ⟨rfl, hb1⟩
      have HST := Lib.hid (HB.out.step hlt hb1)
      obtain ⟨cs, hcs, hsz, _⟩ := HB.out.blk
      have hbk := blk_below hcs hb1 (Nat.le_refl _)
      have f0 := blk_free hbk (k * 2)
      have f1 := blk_free hbk (k * 2 + 1)
      have d0 : w1.cell? ⟨w.heap.size, k * 2, none⟩ = some (cs[k * 2]'(by omega)) := by rw [cell_block' hbk]; exact Array.getElem?_eq_getElem _
      have d1 : w1.cell? ⟨w.heap.size, k * 2 + 1, none⟩ = some (cs[k * 2 + 1]'(by omega)) := by rw [cell_block' hbk]; exact Array.getElem?_eq_getElem _
      clear hcs hbk hc0 hc1 hb1
      generalize cs[k * 2]'_ = v0 at d0
      generalize cs[k * 2 + 1]'_ = v1 at d1
      go_wp2
      go_roundw
      case rel => exact ⟨k + 1, by omega, by go_num, HST.out⟩
      case measure => simp [intOf]; omega
    · obtain rfl : n = k := by omega
      have hb := hB.below
      obtain ⟨h1, h2, cs, hc, hs, hr⟩ := hB
      have HR : Hid (TS wr (some ⟨w.heap.size, 0, none⟩) n n ts) := ⟨Nat.le_refl _, by omega, fun hp => ⟨_, 0, rfl, (Array.getElem?_eq_some_iff.1 hc).1, fun j hj => ⟨by rw [Nat.zero_add, cell_block' hc]; exact (hr j hj).1, by rw [Nat.zero_add, cell_block' hc]; exact (hr j hj).2⟩⟩⟩
      clear HA hc hr hs h1 h2
      go_wp2
      go_ret
      exact ⟨_, rfl, hb, Nat.le_refl _, HR.out⟩
theorem c_eqTap (i : Int) (x : Nat) (w : World) : Calls Try.prog 129 #[.agg #[.int .i64 i, .float .f32 x], .agg #[.int .i64 i, .float .f32 x]] w (RetV (.bool true) w) := by
  go_enter Try.func129, Try.ntmps129
  go_wp2_with (go_at_call 28; refine (c_sameFloat _ _ _ _).mono ?_; rintro e w' ⟨rfl, n3, rfl⟩)
  go_ret
  exact ⟨rfl, by (repeat (first | (with_reducible refine Below.drewN ?_) | (with_reducible refine Below.drew ?_) | ((with_reducible refine Below.alloc ?_ ?_ _); rotate_left; (first | omega | (simp <;> omega))) | ((with_reducible refine Below.setCell ?_ ?_ _); rotate_left; (first | omega | (simp <;> omega))) | (with_reducible exact Below.refl _ _) | (with_reducible assumption)))⟩
theorem c_eqTapS (a b : Option Addr) (n c d : Nat) (ts : List (Int × Nat)) (w : World) (ha : TS w a n c ts) (hb : TS w b n d ts) :
    Calls Try.prog 73 #[.slice a n c, .slice b n d] w (RetV (.bool true) w) := by
  have HA := Lib.hid ha.at_
  have HB := Lib.hid hb.at_
  have hcap := ha.cap
  have hbig := ha.big
  clear ha hb
  go_enter Try.func73, Try.ntmps73
  go_wp2
  go_loopw [5] (fun i wr => ∃ k : Nat, k ≤ n ∧ i = .int .i64 k ∧ Below w.heap.size w wr) (fun i _ => n - (intOf i).toNat)
  case atStart => exact ⟨0, by omega, rfl, by (repeat (first | (with_reducible refine Below.drewN ?_) | (with_reducible refine Below.drew ?_) | ((with_reducible refine Below.alloc ?_ ?_ _); rotate_left; (first | omega | (simp <;> omega))) | ((with_reducible refine Below.setCell ?_ ?_ _); rotate_left; (first | omega | (simp <;> omega))) | (with_reducible exact Below.refl _ _) | (with_reducible assumption)))⟩
  case round =>
    obtain ⟨k, hk, rfl, hbe⟩ := hrel
    by_cases hlt : k < n
    · obtain ⟨b1, o1, rfl, hbl1, hcell1⟩ := HA.out (by omega)
      obtain ⟨b2, o2, rfl, hbl2, hcell2⟩ := HB.out (by omega)
      have x0 := (hbe.cell (p := ⟨b1, o1 + k * 2, none⟩) hbl1).trans (hcell1 k hlt).1
      have x1 := (hbe.cell (p := ⟨b1, o1 + k * 2 + 1, none⟩) hbl1).trans (hcell1 k hlt).2
      have y0 := (hbe.cell (p := ⟨b2, o2 + k * 2, none⟩) hbl2).trans (hcell2 k hlt).1
      have y1 := (hbe.cell (p := ⟨b2, o2 + k * 2 + 1, none⟩) hbl2).trans (hcell2 k hlt).2
      have zb1 : b1 < wr.heap.size := Nat.lt_of_lt_of_le hbl1 hbe.size
      have zb2 : b2 < wr.heap.size := Nat.lt_of_lt_of_le hbl2 hbe.size
      clear hcell1 hcell2
      generalize (tat ts k).1 = I at *
      generalize (tat ts k).2 = X at *
      go_wp2
      refine wp_region_grow [] [] (by kernel_rfl) (by kernel_rfl) (by kernel_rfl) ?_
      apply Exists.intro
      iterate 8 (apply lh_o; kernel_rfl; kernel_rfl; kernel_rfl; (intro W hW; have hWc := Grow.cells hW; go_simp; exact ⟨OneV.mk _, Grow.refl _⟩))
      (apply lh_o; kernel_rfl; kernel_rfl; kernel_rfl; (intro W hW; go_simp; first | exact gB (c_eqTap _ _ _) | exact gV (c_eqTap _ _ _)))
      (apply lh_o; kernel_rfl; kernel_rfl; kernel_rfl; (intro W hW; have hWc := Grow.cells hW; go_simp; exact ⟨OneV.mk _, Grow.refl _⟩))
      (refine lh_nil ?_; intro W hW; simp only [Act.put, List.setIfInBounds_toArray, List.set_cons_succ, List.set_cons_zero])
      have b1 : Below w.heap.size w W := hbe.trans (Below.mono hW hbe.size)
      clear x0 x1 y0 y1
      go_wp2
      go_roundw
      case rel => exact ⟨k + 1, by omega, by go_num, b1⟩
      case measure => simp [intOf]; omega
    · obtain rfl : k = n := by omega
      go_wp2
      go_ret
      exact ⟨rfl, hbe⟩
end Go.Proofs.Ytfhegjjgfaeinaa
