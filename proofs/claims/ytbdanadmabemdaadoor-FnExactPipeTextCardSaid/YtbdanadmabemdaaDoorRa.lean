
/-
Slices of rings in memory: the laws' own helpers over them.
-/
import Derived.Test.YtbdanadmabemdaaDoorRg
import Derived.Test.YtbdanadmabemdaaDoorRt
namespace Go.Proofs.YtbdanadmabemdaaDoor
open Go Go.RowKit Fl
theorem RAt.below {w w' : World} {b o B : Nat} {r : Rg} (h : RAt w b o r) (hb : Below B w w') (hB : w.heap.size ≤ B) (hlt : b < w.heap.size) : RAt w' b o r :=
  ⟨(hb.cell (p := ⟨b, o, none⟩) (Nat.lt_of_lt_of_le hlt hB)).trans h.c0, (hb.cell (p := ⟨b, o + 1, none⟩) (Nat.lt_of_lt_of_le hlt hB)).trans h.c1, h.fs.below hb hB⟩
/-- a slice of rings -/
structure RS (w : World) (a : Option Addr) (n c : Nat) (rs : List Rg) : Prop where
  len : rs.length = n
  cap : n ≤ c
  big : c ≤ 9223372036854775807
  at_ : 0 < n → ∃ b o, a = some ⟨b, o, none⟩ ∧ b < w.heap.size ∧ ∀ j, j < n → RAt w b (o + j * 2) (rat rs j)
theorem RS.below {w w' : World} {a : Option Addr} {n c B : Nat} {rs : List Rg} (h : RS w a n c rs) (hb : Below B w w') (hB : w.heap.size ≤ B) : RS w' a n c rs :=
  ⟨h.len, h.cap, h.big, fun hn => by
    obtain ⟨b, o, ha, hbl, hc⟩ := h.at_ hn
    exact ⟨b, o, ha, Nat.lt_of_lt_of_le hbl hb.size, fun j hj => (hc j hj).below hb hB hbl⟩⟩
/-- no memory of a slice of rings lies below a block -/
def RLow (lo : Nat) (a : Option Addr) (n : Nat) (rs : List Rg) : Prop := (∀ b o, a = some ⟨b, o, none⟩ → lo ≤ b) ∧ ∀ j, j < n → ∀ b o, (rat rs j).a = some ⟨b, o, none⟩ → lo ≤ b
theorem RLow.mono {lo lo' : Nat} {a : Option Addr} {n : Nat} {rs : List Rg} (h : RLow lo a n rs) (hl : lo' ≤ lo) : RLow lo' a n rs := ⟨fun b o e => Nat.le_trans hl (h.1 b o e), fun j hj b o e => Nat.le_trans hl (h.2 j hj b o e)⟩
theorem cell_same {w w' : World} {b : Nat} (h : w'.heap[b]? = w.heap[b]?) (o : Nat) : w'.cell? ⟨b, o, none⟩ = w.cell? ⟨b, o, none⟩ := by
  unfold World.cell?; simp only [h]
theorem FS.same {w w' : World} {a : Option Addr} {n c : Nat} {xs : List Nat} (h : FS w a n c xs) (hs : w.heap.size ≤ w'.heap.size) (hb : ∀ b o, a = some ⟨b, o, none⟩ → w'.heap[b]? = w.heap[b]?) : FS w' a n c xs :=
  ⟨h.len, h.cap, h.big, fun hn => by
    obtain ⟨b, o, ha, hbl, hc⟩ := h.at_ hn
    exact ⟨b, o, ha, Nat.lt_of_lt_of_le hbl hs, fun j hj => (cell_same (hb b o ha) _).trans (hc j hj)⟩⟩
theorem RS.same {w w' : World} {a : Option Addr} {n c lo : Nat} {rs : List Rg} (h : RS w a n c rs) (hl : RLow lo a n rs) (hs : w.heap.size ≤ w'.heap.size) (hb : ∀ b, lo ≤ b → b < w.heap.size → w'.heap[b]? = w.heap[b]?) : RS w' a n c rs :=
  ⟨h.len, h.cap, h.big, fun hn => by
    obtain ⟨b, o, ha, hbl, hc⟩ := h.at_ hn
    refine ⟨b, o, ha, Nat.lt_of_lt_of_le hbl hs, fun j hj => ?_⟩
    have hr := hc j hj
    have hbe := hb b (hl.1 b o ha) hbl
    refine ⟨(cell_same hbe _).trans hr.c0, (cell_same hbe _).trans hr.c1, ⟨hr.fs.len, hr.fs.cap, hr.fs.big, fun hn2 => ?_⟩⟩
    obtain ⟨b2, o2, ha2, hbl2, hc2⟩ := hr.fs.at_ hn2
    exact ⟨b2, o2, ha2, Nat.lt_of_lt_of_le hbl2 hs, fun i hi => (cell_same (hb b2 (hl.2 j hj b2 o2 ha2) hbl2) _).trans (hc2 i hi)⟩⟩
theorem RS.setCell {w : World} {a : Option Addr} {n c lo g o : Nat} {rs : List Rg} (h : RS w a n c rs) (hl : RLow lo a n rs) (hg : g < lo) (v : Value) : RS (w.setCell ⟨g, o, none⟩ v) a n c rs :=
  h.same hl (by simp) (fun b hb _ => Below.heap_setCell w ⟨g, o, none⟩ v b (show b ≠ g by omega))
theorem RS.alloc {w : World} {a : Option Addr} {n c : Nat} {rs : List Rg} (h : RS w a n c rs) (ob : Obj) : RS (w.alloc ob) a n c rs :=
  h.below ((Below.refl _ _).alloc (Nat.le_refl _) ob) (Nat.le_refl _)
theorem RS.draw {w : World} {a : Option Addr} {n c k : Nat} {rs : List Rg} (h : RS w a n c rs) : RS (w.drewN k) a n c rs := h.below (Below.drewN (Below.refl _ _)) (Nat.le_refl _)
theorem RS.wr0 {w w' : World} {a : Option Addr} {n c lo b : Nat} {rs : List Rg} (h : RS w a n c rs) (hl : RLow lo a n rs) (hw : Wr [b] w w') (hb : b < lo) : RS w' a n c rs :=
  h.same hl hw.size (fun k hk hk2 => hw.block k hk2 (by simp; omega))
/-- how many samples the first k rings have -/
def rgSum (rs : List Rg) : Nat → Nat
  | 0 => 0
  | k + 1 => rgSum rs k + (rat rs k).n
theorem rgSum_mono (rs : List Rg) : ∀ {n k : Nat}, k ≤ n → rgSum rs k ≤ rgSum rs n
  | 0, k, h => by obtain rfl : k = 0 := by omega
                  exact Nat.le_refl _
  | n + 1, k, h => by
    by_cases e : k = n + 1
    · subst e; exact Nat.le_refl _
    · exact Nat.le_trans (rgSum_mono rs (show k ≤ n by omega)) (Nat.le_add_right _ _)
theorem c_szRingS_ok (a : Option Addr) (n c : Nat) (rs : List Rg) (left : Int) (w : World) (h : RS w a n c rs) (h1 : left ≤ 1048576) (hs : (n : Int) + (rgSum rs n : Int) ≤ left) :
    Calls Tryd.prog 36 #[.slice a n c, .int .i64 left] w (RetV (.int .i64 (left - n - rgSum rs n)) w) := by
  have HA := Lib.hid h.at_
  have hn : n ≤ 1048576 := by omega
  clear h
  have hl : ¬ (left - n < 0) := by omega
  go_enter Tryd.func36, Tryd.ntmps36
  go_wp2
  go_loopw [1, 5] (fun l i wr => ∃ k : Nat, k ≤ n ∧ i = .int .i64 k ∧ l = .int .i64 (left - n - rgSum rs k) ∧ Below w.heap.size w wr) (fun _ i _ => n - (intOf i).toNat)
  case atStart => exact ⟨0, by omega, rfl, by simp [rgSum], by (repeat (first | (with_reducible refine Below.drewN ?_) | (with_reducible refine Below.drew ?_) | ((with_reducible refine Below.alloc ?_ ?_ _); rotate_left; (first | omega | (simp <;> omega))) | ((with_reducible refine Below.setCell ?_ ?_ _); rotate_left; (first | omega | (simp <;> omega))) | (with_reducible exact Below.refl _ _) | (with_reducible assumption)))⟩
  case round =>
    obtain ⟨k, hk, rfl, rfl, hbe⟩ := hrel
    by_cases hlt : k < n
    · obtain ⟨b, o, rfl, hbl, hcell⟩ := HA.out (by omega)
      have hr := (hcell k hlt).below hbe (Nat.le_refl _) hbl
      have hc0 := hr.c0
      have hc1 := hr.c1
      have hnb : (rat rs k).n ≤ 9223372036854775807 := Nat.le_trans hr.fs.cap hr.fs.big
      have hm := rgSum_mono rs (show k + 1 ≤ n by omega)
      have hm' : rgSum rs (k + 1) = rgSum rs k + (rat rs k).n := rfl
      rw [hm'] at hm
      have HM := Lib.hid hm'
      have hle : ¬ (left - n - rgSum rs k - (rat rs k).n < 0) := by omega
      clear hr hcell hm'
      go_wp2_with fail
      refine (c_szRing_ok _ _ _ _ _ _ (by omega) (by omega) hnb (by omega)).mono ?_
      rintro e w1 ⟨rfl, hb1⟩
      have b1 : Below w.heap.size w w1 := hbe.trans (hb1.mono hbe.size)
      go_wp2
      go_roundw
      case rel => exact ⟨k + 1, by omega, by go_num, by rw [HM.out]; congr 1; omega, b1⟩
      case measure => simp [intOf]; omega
    · obtain rfl : k = n := by omega
      go_wp2
      go_ret
      exact ⟨rfl, hbe⟩
theorem c_szRingS_no (a : Option Addr) (n c : Nat) (rs : List Rg) (left : Int) (w : World) (h : RS w a n c rs) (h0 : 0 ≤ left) (h1 : left ≤ 1048576) (hs : left < (n : Int) + (rgSum rs n : Int)) :
    Calls Tryd.prog 36 #[.slice a n c, .int .i64 left] w (RetV (.int .i64 (-1)) w) := by
  have HA := Lib.hid h.at_
  have hcap := h.cap
  have hbig := h.big
  clear h
  by_cases hl : left - n < 0
  · go_enter Tryd.func36, Tryd.ntmps36
    go_wp2
    go_ret
    exact ⟨rfl, by (repeat (first | (with_reducible refine Below.drewN ?_) | (with_reducible refine Below.drew ?_) | ((with_reducible refine Below.alloc ?_ ?_ _); rotate_left; (first | omega | (simp <;> omega))) | ((with_reducible refine Below.setCell ?_ ?_ _); rotate_left; (first | omega | (simp <;> omega))) | (with_reducible exact Below.refl _ _) | (with_reducible assumption)))⟩
  · go_enter Tryd.func36, Tryd.ntmps36
    go_wp2
    go_loopw [1, 5] (fun l i wr => ∃ k : Nat, k ≤ n ∧ i = .int .i64 k ∧ l = .int .i64 (left - n - rgSum rs k) ∧ (n : Int) + (rgSum rs k : Int) ≤ left ∧ Below w.heap.size w wr) (fun _ i _ => n - (intOf i).toNat)
    case atStart => exact ⟨0, by omega, rfl, by simp [rgSum], by simp [rgSum]; omega, by (repeat (first | (with_reducible refine Below.drewN ?_) | (with_reducible refine Below.drew ?_) | ((with_reducible refine Below.alloc ?_ ?_ _); rotate_left; (first | omega | (simp <;> omega))) | ((with_reducible refine Below.setCell ?_ ?_ _); rotate_left; (first | omega | (simp <;> omega))) | (with_reducible exact Below.refl _ _) | (with_reducible assumption)))⟩
    case round =>
      obtain ⟨k, hk, rfl, rfl, hsum, hbe⟩ := hrel
      by_cases hlt : k < n
      · obtain ⟨b, o, rfl, hbl, hcell⟩ := HA.out (by omega)
        have hr := (hcell k hlt).below hbe (Nat.le_refl _) hbl
        have hc0 := hr.c0
        have hc1 := hr.c1
        have hnb : (rat rs k).n ≤ 9223372036854775807 := Nat.le_trans hr.fs.cap hr.fs.big
        have hm' : rgSum rs (k + 1) = rgSum rs k + (rat rs k).n := rfl
        have HM := Lib.hid hm'
        clear hr hcell hm'
        by_cases hle : left - n - rgSum rs k < (rat rs k).n
        · go_wp2_with fail
          refine (c_szRing_no _ _ _ _ _ _ (by omega) (by omega) hnb (by omega)).mono ?_
          rintro e w1 ⟨rfl, hb1⟩
          have b1 : Below w.heap.size w w1 := hbe.trans (hb1.mono hbe.size)
          go_wp2
          go_ret
          exact ⟨rfl, b1⟩
        · have hle2 : ¬ (left - n - rgSum rs k - (rat rs k).n < 0) := by omega
          go_wp2_with fail
          refine (c_szRing_ok _ _ _ _ _ _ (by omega) (by omega) hnb (by omega)).mono ?_
          rintro e w1 ⟨rfl, hb1⟩
          have b1 : Below w.heap.size w w1 := hbe.trans (hb1.mono hbe.size)
          go_wp2
          go_roundw
          case rel => exact ⟨k + 1, by omega, by go_num, by rw [HM.out]; congr 1; omega, by rw [HM.out]; omega, b1⟩
          case measure => simp [intOf]; omega
      · obtain rfl : k = n := by omega
        omega
/-! ### new rings -/
theorem infoR : (Tryd.prog.info? 34).map (fun i => (i.zero, i.size, i.bytes)) = some (some (.agg #[.slice none 0 0, .int .i64 0]), 2, 32) := by kernel_rfl
theorem mk_ring (n : Nat) (hn : n ≤ 1048576) (w : World) : (Instr.makeSlice 55 (.int .i64 n) (.int .i64 n)).run Tryd.prog w = .ok (.slice (some ⟨w.heap.size, 0, none⟩) n n) (w.alloc (.cells (madeCells #[.slice none 0 0, .int .i64 0] (n * 2)) 34)) := by
  obtain ⟨i, hi, hz, hsz, hby⟩ := info_parts infoR
  have := run_make (P := Tryd.prog) w 55 34 i (.agg #[.slice none 0 0, .int .i64 0]) Tryd.underlying55 hi hz .i64 .i64 n n (by omega) (by omega) (by rw [hby]; omega) (by omega)
  rw [this, hsz]
  simp only [Int.toNat_natCast]
  rfl
theorem blk_set_cs {w : World} {g : Nat} {cs : Array Value} {T : TypeId} (h : w.heap[g]? = some (.cells cs T)) (o : Nat) (v : Value) : (w.setCell ⟨g, o, none⟩ v).heap[g]? = some (.cells (cs.setIfInBounds o v) T) := by
  unfold World.setCell
  simp [Array.getElem?_modify, h]
theorem blk_free {w : World} {g : Nat} {cs : Array Value} {T : TypeId} (h : w.heap[g]? = some (.cells cs T)) (o : Nat) : w.frozen? ⟨g, o, none⟩ = false := by
  unfold World.frozen?; rw [h]; simp
theorem blk_below {w w' : World} {g B : Nat} {cs : Array Value} {T : TypeId} (h : w.heap[g]? = some (.cells cs T)) (hb : Below B w w') (hB : w.heap.size ≤ B) : w'.heap[g]? = some (.cells cs T) :=
  (hb.block g (Nat.lt_of_lt_of_le (Array.getElem?_eq_some_iff.1 h).1 hB)).trans h
theorem cell_block' {w : World} {g : Nat} {cs : Array Value} {T : TypeId} (h : w.heap[g]? = some (.cells cs T)) (i : Nat) : w.cell? ⟨g, i, none⟩ = cs[i]? := by
  unfold World.cell?; rw [h]; rfl
/-- what is written so far -/
def RW (w : World) (g k : Nat) (cs : Array Value) (rs : List Rg) : Prop := ∀ j, j < k → ∃ q, g < q ∧ q < w.heap.size ∧ cs[j * 2]? = some (.slice (some ⟨q, 0, none⟩) (rat rs j).n (rat rs j).n) ∧ cs[j * 2 + 1]? = some (.int .i64 (rat rs j).i) ∧ OF w q (some ⟨q, 0, none⟩) (rat rs j).n (rat rs j).n (rat rs j).xs
structure RB (w0 w : World) (g n k : Nat) (rs : List Rg) : Prop where
  below : Below w0.heap.size w0 w
  hg : w0.heap.size ≤ g
  blk : ∃ cs, w.heap[g]? = some (.cells cs 34) ∧ cs.size = n * 2 ∧ RW w g k cs rs
theorem RB.step {w0 w w1 : World} {g n k q : Nat} {rs : List Rg} (h : RB w0 w g n k rs) (hk : k < n) (hb : Below w.heap.size w w1) (hq : w.heap.size ≤ q) (hq1 : q < w1.heap.size) (ho : OF w1 q (some ⟨q, 0, none⟩) (rat rs k).n (rat rs k).n (rat rs k).xs) :
    RB w0 ((w1.setCell ⟨g, k * 2, none⟩ (.slice (some ⟨q, 0, none⟩) (rat rs k).n (rat rs k).n)).setCell ⟨g, k * 2 + 1, none⟩ (.int .i64 (rat rs k).i)) g n (k + 1) rs := by
  obtain ⟨h1, h2, cs, hc, hs, hr⟩ := h
  have hgw : g < w.heap.size := (Array.getElem?_eq_some_iff.1 hc).1
  have hc1 := blk_below hc hb (Nat.le_refl _)
  have hc2 := blk_set_cs (blk_set_cs hc1 (k * 2) (.slice (some ⟨q, 0, none⟩) (rat rs k).n (rat rs k).n)) (k * 2 + 1) (.int .i64 (rat rs k).i)
  refine ⟨Below.setCell (Below.setCell (h1.trans (hb.mono h1.size)) (by simpa using h2) _) (by simpa using h2) _, h2, _, hc2, by simpa using hs, fun j hj => ?_⟩
  by_cases e : j = k
  · subst e
    refine ⟨q, by omega, by simpa using hq1, ?_, ?_, (ho.setCell (by simp; omega) _).setCell (by simp; omega) _⟩
    · rw [Array.getElem?_setIfInBounds_ne (by omega), Array.getElem?_setIfInBounds_self_of_lt (by omega)]
    · rw [Array.getElem?_setIfInBounds_self_of_lt (by simp; omega)]
  · obtain ⟨p, p1, p2, p3, p4, p5⟩ := hr j (by omega)
    have p2' : p < w1.heap.size := Nat.lt_of_lt_of_le p2 hb.size
    refine ⟨p, p1, by simpa using p2', ?_, ?_, ((p5.below hb (Nat.le_refl _)).setCell (by simp; omega) _).setCell (by simp; omega) _⟩
    · rw [Array.getElem?_setIfInBounds_ne (by omega), Array.getElem?_setIfInBounds_ne (by omega)]; exact p3
    · rw [Array.getElem?_setIfInBounds_ne (by omega), Array.getElem?_setIfInBounds_ne (by omega)]; exact p4
/-- what a list of rings holds -/
def sameC (rs ss : List Rg) (n : Nat) : Prop := ∀ j, j < n → (rat ss j).n = (rat rs j).n ∧ (rat ss j).xs = (rat rs j).xs ∧ (rat ss j).i = (rat rs j).i
theorem RB.done {w0 w : World} {g n : Nat} {rs : List Rg} (h : RB w0 w g n n rs) (hn : n ≤ 9223372036854775807) : ∃ ss, RS w (some ⟨g, 0, none⟩) n n ss ∧ sameC rs ss n ∧ RLow w0.heap.size (some ⟨g, 0, none⟩) n ss := by
  obtain ⟨h1, h2, cs, hc, hs, hr⟩ := h
  obtain ⟨f, hf⟩ := Deep.choose_lt (α := Nat) hr
  have hrat : ∀ j, j < n → rat ((List.range n).map fun j => (⟨some ⟨f j, 0, none⟩, (rat rs j).n, (rat rs j).n, (rat rs j).xs, (rat rs j).i⟩ : Rg)) j = ⟨some ⟨f j, 0, none⟩, (rat rs j).n, (rat rs j).n, (rat rs j).xs, (rat rs j).i⟩ := fun j hj => by
    unfold rat; simp [hj]
  refine ⟨(List.range n).map fun j => ⟨some ⟨f j, 0, none⟩, (rat rs j).n, (rat rs j).n, (rat rs j).xs, (rat rs j).i⟩, ⟨by simp, Nat.le_refl _, hn, fun hp => ⟨g, 0, rfl, (Array.getElem?_eq_some_iff.1 hc).1, fun j hj => ?_⟩⟩, fun j hj => by rw [hrat j hj]; exact ⟨rfl, rfl, rfl⟩, fun b o e => by cases e; exact h2, fun j hj b o e => by
    rw [hrat j hj] at e
    cases e
    obtain ⟨p1, _⟩ := hf j hj
    omega⟩
  obtain ⟨p1, p2, p3, p4, p5⟩ := hf j hj
  rw [hrat j hj]
  refine ⟨?_, ?_, p5.fs⟩
  · rw [Nat.zero_add]; unfold World.cell?; rw [hc]; exact p3
  · rw [Nat.zero_add]; unfold World.cell?; rw [hc]; exact p4
end Go.Proofs.YtbdanadmabemdaaDoor
