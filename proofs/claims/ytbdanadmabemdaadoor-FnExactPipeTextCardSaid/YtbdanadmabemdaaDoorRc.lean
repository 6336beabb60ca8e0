
/-
Slices of rings in memory: copies and comparison by the laws' own helpers.
-/
import Derived.Test.YtbdanadmabemdaaDoorRa
import Derived.Test.YtbdanadmabemdaaDoorLw
namespace Go.Proofs.YtbdanadmabemdaaDoor
open Go Go.RowKit Fl
theorem sameC.both {rs ss tt : List Rg} {n : Nat} (h : sameC rs ss n) (k : sameC rs tt n) : sameC ss tt n := fun j hj => ⟨(k j hj).1.trans (h j hj).1.symm, (k j hj).2.1.trans (h j hj).2.1.symm, (k j hj).2.2.trans (h j hj).2.2.symm⟩
theorem sameC.refl (rs : List Rg) (n : Nat) : sameC rs rs n := fun _ _ => ⟨rfl, rfl, rfl⟩
theorem c_toRingS (a : Option Addr) (n c : Nat) (rs : List Rg) (w : World) (h : RS w a n c rs) (hn : n ≤ 1048576) (hs : ∀ j, j < n → (rat rs j).n ≤ 1048576) :
    Calls Tryd.prog 40 #[.slice a n c] w (fun e w' => ∃ g ss, e = .returned (.slice (some ⟨g, 0, none⟩) n n) ∧ Below w.heap.size w w' ∧ RS w' (some ⟨g, 0, none⟩) n n ss ∧ sameC rs ss n ∧ RLow w.heap.size (some ⟨g, 0, none⟩) n ss) := by
  have HA := Lib.hid h.at_
  have HS := Lib.hid hs
  have hmk := mk_ring n hn
  clear h hs
  have R0 : RB w (w.alloc (.cells (madeCells #[.slice none 0 0, .int .i64 0] (n * 2)) 34)) w.heap.size n 0 rs :=
    ⟨by (repeat (first | (with_reducible refine Below.drewN ?_) | (with_reducible refine Below.drew ?_) | ((with_reducible refine Below.alloc ?_ ?_ _); rotate_left; (first | omega | (simp <;> omega))) | ((with_reducible refine Below.setCell ?_ ?_ _); rotate_left; (first | omega | (simp <;> omega))) | (with_reducible exact Below.refl _ _) | (with_reducible assumption))), Nat.le_refl _, _, (MapKept.heap_alloc w _).1, by simp [madeCells], fun j hj => absurd hj (by omega)⟩
  go_enter Tryd.func40, Tryd.ntmps40
  go_wp2
  clear hmk
  generalize w.alloc (.cells (madeCells #[.slice none 0 0, .int .i64 0] (n * 2)) 34) = w0 at *
  go_loopw [4] (fun i wr => ∃ k : Nat, k ≤ n ∧ i = .int .i64 k ∧ RB w wr w.heap.size n k rs) (fun i _ => n - (intOf i).toNat)
  case atStart => exact ⟨0, by omega, rfl, R0⟩
  case round =>
    clear R0
    obtain ⟨k, hk, rfl, hB⟩ := hrel
    by_cases hlt : k < n
    · obtain ⟨b, o, rfl, hbl, hcell⟩ := HA.out (by omega)
      have hr := (hcell k hlt).below hB.below (Nat.le_refl _) hbl
      have hc0 := hr.c0
      have hc1 := hr.c1
      have hfs := Lib.hid hr.fs
      have hbw := hB.below.size
      have HB := Lib.hid hB
      clear hr hcell hB
      go_wp2_with fail
      refine (c_toRing' _ _ _ _ _ _ hfs.out (HS.out k hlt)).mono ?_
      rintro e w1 ⟨q, rfl, hb1, hq, hq1, ho⟩
      have HST := Lib.hid (HB.out.step hlt hb1 hq hq1 ho)
      obtain ⟨cs, hcs, hsz, _⟩ := HB.out.blk
      have hbk := blk_below hcs hb1 (Nat.le_refl _)
      have f0 := blk_free hbk (k * 2)
      have f1 := blk_free hbk (k * 2 + 1)
      have d0 : w1.cell? ⟨w.heap.size, k * 2, none⟩ = some (cs[k * 2]'(by omega)) := by rw [cell_block' hbk]; exact Array.getElem?_eq_getElem _
      have d1 : w1.cell? ⟨w.heap.size, k * 2 + 1, none⟩ = some (cs[k * 2 + 1]'(by omega)) := by rw [cell_block' hbk]; exact Array.getElem?_eq_getElem _
      clear hcs hbk hc0 hc1 hb1
      generalize cs[k * 2]'_ = v0 at d0
      generalize cs[k * 2 + 1]'_ = v1 at d1
      go_wp2
      go_roundw
      case rel => exact ⟨k + 1, by omega, by go_num, HST.out⟩
      case measure => simp [intOf]; omega
    · obtain rfl : k = n := by omega
      obtain ⟨ss, h1, h2, h3⟩ := hB.done (by omega)
      have hb := hB.below
      clear HA HS
      go_wp2
      go_ret
      exact ⟨_, ss, rfl, hb, h1, h2, h3⟩
theorem c_eqRingS (a b : Option Addr) (n c d : Nat) (rs ss : List Rg) (w : World) (ha : RS w a n c rs) (hb : RS w b n d ss) (h : sameC rs ss n) :
    Calls Tryd.prog 45 #[.slice a n c, .slice b n d] w (RetV (.bool true) w) := by
  have HA := Lib.hid ha.at_
  have HB := Lib.hid hb.at_
  have HC := Lib.hid h
  have hcap := ha.cap
  have hbig := ha.big
  clear ha hb h
  go_enter Tryd.func45, Tryd.ntmps45
  go_wp2
  go_loopw [5] (fun i wr => ∃ k : Nat, k ≤ n ∧ i = .int .i64 k ∧ Below w.heap.size w wr) (fun i _ => n - (intOf i).toNat)
  case atStart => exact ⟨0, by omega, rfl, by (repeat (first | (with_reducible refine Below.drewN ?_) | (with_reducible refine Below.drew ?_) | ((with_reducible refine Below.alloc ?_ ?_ _); rotate_left; (first | omega | (simp <;> omega))) | ((with_reducible refine Below.setCell ?_ ?_ _); rotate_left; (first | omega | (simp <;> omega))) | (with_reducible exact Below.refl _ _) | (with_reducible assumption)))⟩
  case round =>
    obtain ⟨k, hk, rfl, hbe⟩ := hrel
    by_cases hlt : k < n
    · obtain ⟨b1, o1, rfl, hbl1, hcell1⟩ := HA.out (by omega)
      obtain ⟨b2, o2, rfl, hbl2, hcell2⟩ := HB.out (by omega)
      have r1 := (hcell1 k hlt).below hbe (Nat.le_refl _) hbl1
      have r2 := (hcell2 k hlt).below hbe (Nat.le_refl _) hbl2
      obtain ⟨e1, e2, e3⟩ := HC.out k hlt
      have x0 := r1.c0
      have x1 := r1.c1
      have y0 := r2.c0
      have y1 := r2.c1
      rw [e1] at y0
      rw [e3] at y1
      have F1 := Lib.hid r1.fs
      have F2 : Hid (FS wr (rat ss k).a (rat rs k).n (rat ss k).c (rat rs k).xs) := by have := r2.fs; rw [e1, e2] at this; exact this
      have zb1 : b1 < wr.heap.size := Nat.lt_of_lt_of_le hbl1 hbe.size
      have zb2 : b2 < wr.heap.size := Nat.lt_of_lt_of_le hbl2 hbe.size
      clear r1 r2 hcell1 hcell2 e1 e2 e3
      generalize (rat rs k).n = N at *
      generalize (rat rs k).i = I at *
      generalize (rat rs k).a = A1 at *
      generalize (rat rs k).c = C1 at *
      generalize (rat ss k).a = A2 at *
      generalize (rat ss k).c = C2 at *
      go_wp2
      refine wp_region_grow [] [] (by kernel_rfl) (by kernel_rfl) (by kernel_rfl) ?_
      apply Exists.intro
      iterate 8 (apply lh_o; kernel_rfl; kernel_rfl; kernel_rfl; (intro W hW; have hWc := Grow.cells hW; go_simp; exact ⟨OneV.mk _, Grow.refl _⟩))
      (apply lh_o; kernel_rfl; kernel_rfl; kernel_rfl; (intro W hW; go_simp; first | exact gB (c_eqRing' _ _ _ _ _ _ _ _ _ (FS.below (B := wr.heap.size) F1.out hW (Nat.le_refl _)) (FS.below (B := wr.heap.size) F2.out hW (Nat.le_refl _)) (Alk.refl _)) | exact gV (c_eqRing' _ _ _ _ _ _ _ _ _ (FS.below (B := wr.heap.size) F1.out hW (Nat.le_refl _)) (FS.below (B := wr.heap.size) F2.out hW (Nat.le_refl _)) (Alk.refl _))))
      (apply lh_o; kernel_rfl; kernel_rfl; kernel_rfl; (intro W hW; have hWc := Grow.cells hW; go_simp; exact ⟨OneV.mk _, Grow.refl _⟩))
      (refine lh_nil ?_; intro W hW; simp only [Act.put, List.setIfInBounds_toArray, List.set_cons_succ, List.set_cons_zero])
      have b1 : Below w.heap.size w W := hbe.trans (Below.mono hW hbe.size)
      clear x0 x1 y0 y1
      go_wp2
      go_roundw
      case rel => exact ⟨k + 1, by omega, by go_num, b1⟩
      case measure => simp [intOf]; omega
    · obtain rfl : k = n := by omega
      go_wp2
      go_ret
      exact ⟨rfl, hbe⟩
end Go.Proofs.YtbdanadmabemdaaDoor
