
/-
Contracts of numbers in hexadecimal.
-/
import Derived.Test.YtbdanadmabemdaaDoorCa
import Derived.Test.YtbdanadmabemdaaDoorDa
import Derived.IntWalk
import Derived.Deep.Cut
import Derived.Lib.SmallJoins
import Derived.Lib.ItoaNum
import Derived.Lib.LaidTab
import Derived.Lib.Itoa
namespace Go.Proofs.YtbdanadmabemdaaDoor
open Go Go.RowKit Fl
theorem c_TZ64 (w : World) (hT : w.cell? ⟨4, 15, none⟩ = some (.int .u8 4)) : Calls Tryd.prog 113 #[.int .u64 16] w (fun e w' => e = .returned (.int .i64 4) ∧ w' = w) := by
  have e1 : IntKind.u64.wrap (-16) = 18446744073709551600 := by decide
  have e2 : bits .and .u64 16 18446744073709551600 = 16 := by decide +kernel
  have e3 : IntKind.u64.wrap (16 * 285870213051353865) = 4573923408821661840 := by decide
  have e4 : (4573923408821661840 : Int) / 288230376151711744 = 15 := by decide
  go_enter Tryd.func113, Tryd.ntmps113
  go_wp2
  go_ret
  exact ⟨rfl, rfl⟩
theorem c_TZ (w : World) (hT : w.cell? ⟨4, 15, none⟩ = some (.int .u8 4)) : Calls Tryd.prog 111 #[.int .u64 16] w (fun e w' => e = .returned (.int .i64 4) ∧ w' = w) := by
  go_enter Tryd.func111, Tryd.ntmps111
  go_wp2_with (go_at_call 113; refine (c_TZ64 _ hT).mono ?_; rintro e w' ⟨rfl, rfl⟩)
  go_ret
  exact ⟨rfl, rfl⟩
/-- a digit -/
def hd (n : Nat) : Nat := if n % 16 < 10 then 48 + n % 16 else 87 + n % 16
set_option maxRecDepth 100000 in
theorem ix_digit {d : Nat} (h : d < 16) : ∀ W, (Instr.index 9 (.string ⟨#[48, 49, 50, 51, 52, 53, 54, 55, 56, 57, 97, 98, 99, 100, 101, 102, 103, 104, 105, 106, 107, 108, 109, 110, 111, 112, 113, 114, 115, 116, 117, 118, 119, 120, 121, 122]⟩) (.int .u64 (d : Int))).run Tryd.prog W = .ok (.int .u8 (hd d : Int)) W := by
  intro W
  have hc : d = 0 ∨ d = 1 ∨ d = 2 ∨ d = 3 ∨ d = 4 ∨ d = 5 ∨ d = 6 ∨ d = 7 ∨ d = 8 ∨ d = 9 ∨ d = 10 ∨ d = 11 ∨ d = 12 ∨ d = 13 ∨ d = 14 ∨ d = 15 := by omega
  rcases hc with rfl | rfl | rfl | rfl | rfl | rfl | rfl | rfl | rfl | rfl | rfl | rfl | rfl | rfl | rfl | rfl <;> rfl
theorem and15 (u : Nat) : bits .and .u64 (u : Int) 15 = ((u % 16 : Nat) : Int) := by
  have h : (BitVec.ofInt 64 (u : Int) &&& BitVec.ofInt 64 15).toNat = u % 16 := by
    have e : BitVec.ofInt 64 15 = BitVec.ofNat 64 (2 ^ 4 - 1) := by decide
    rw [e, BitVec.toNat_and, BitVec.ofInt_natCast]
    simp only [BitVec.toNat_ofNat]
    rw [Nat.mod_eq_of_lt (a := 2 ^ 4 - 1) (by decide), Nat.and_two_pow_sub_one_eq_mod]
    omega
  show IntKind.u64.wrap ((BitVec.ofInt 64 (u : Int) &&& BitVec.ofInt 64 15).toNat : Int) = _
  rw [h]
  simp [IntKind.wrap, IntKind.bits, IntKind.signed]
  omega
theorem c_isPow (w : World) : Calls Tryd.prog 110 #[.int .i64 16] w (fun e w' => e = .returned (.bool true) ∧ w' = w) := by
  have e2 : bits .and .i64 16 15 = 0 := by decide +kernel
  go_enter Tryd.func110, Tryd.ntmps110
  go_wp2
  go_ret
  exact ⟨rfl, rfl⟩
/-- the tables that are read -/
structure Tb (w : World) : Prop where
  lt : 4 < w.heap.size
  c : w.cell? ⟨4, 15, none⟩ = some (.int .u8 4)
  tab : Lib.TabIs Tryd.prog w "internal/strconv.uint64pow10" .u64 Lib.pow10Tab
theorem gl10 : Tryd.prog.globalNamed "internal/strconv.uint64pow10" = some 1 := by kernel_rfl
theorem Tb.below {w w' : World} {B : Nat} (h : Tb w) (hb : Below B w w') (hB : w.heap.size ≤ B) : Tb w' :=
  ⟨Nat.lt_of_lt_of_le h.lt hb.size, (hb.cell (p := ⟨4, 15, none⟩) (Nat.lt_of_lt_of_le h.lt hB)).trans h.c, Go.Joins.tab_stays gl10 h.tab hb hB⟩
theorem hd_lt (n : Nat) : hd n < 256 := by unfold hd; split <;> omega
theorem hd_mod (n : Nat) : hd n = hd (n % 16) := by unfold hd; rw [Nat.mod_mod]
theorem wp_name {P : Program} {C : Code} {Q : Exit → Act → World → Prop} {a : Act} {w : World} (h : ∀ W, W = w → C.wp P Q a W) : C.wp P Q a w := h w rfl
theorem cell_of {w : World} {g : Nat} {cs : Array Value} {T : TypeId} {v : Value} (h : w.heap[g]? = some (.cells cs T)) (i : Nat) (hv : cs[i]? = some v) : w.cell? ⟨g, i, none⟩ = some v := by
  rw [← hv]; unfold World.cell?; rw [h]; rfl
theorem z65 : (Tryd.zeroCells158 : Array Value).size = 65 := by kernel_rfl
theorem u8_of {c : Nat} (h : c < 256) : ((UInt8.ofNat c).toNat : Int) = (c : Int) := by
  rw [UInt8.toNat_ofNat', Nat.mod_eq_of_lt h]
set_option maxRecDepth 100000 in
set_option maxHeartbeats 3200000 in
theorem c_fb1 (u0 : Nat) (h2 : u0 < 16) (w : World) (hT : Tb w) : Calls Tryd.prog 101 #[.slice none 0 0, .int .u64 (u0 : Int), .int .i64 16, .bool false, .bool false] w (fun e w' => e = .returned (.tuple #[.slice none 0 0, .string ⟨([UInt8.ofNat (hd u0)] : List UInt8).toArray⟩]) ∧ Below w.heap.size w w') := by
  obtain ⟨c0, hc0⟩ : ∃ c0, c0 = hd u0 := ⟨_, rfl⟩
  have k0 : ¬ (16 : Int) ≤ (u0 : Int) := by omega
  have x0 := ix_digit (d := u0) (by omega)
  rw [← hc0] at x0
  have HC0 : Hid (UInt8.ofNat c0 = UInt8.ofNat (hd (u0)) ∧ c0 < 256) := by
    refine ⟨?_, by rw [hc0]; exact hd_lt _⟩
    rw [hc0]
  clear hc0 h2
  go_enter Tryd.func101, Tryd.ntmps101
  go_wp2_with (first | (go_at_call 110; refine (c_isPow _).mono ?_; rintro e w' ⟨rfl, rfl⟩) | (go_at_call 111; refine (c_TZ _ (hT.below (B := w.heap.size) (by (repeat (first | (with_reducible refine Below.drewN ?_) | (with_reducible refine Below.drew ?_) | ((with_reducible refine Below.alloc ?_ ?_ _); rotate_left; (first | omega | (simp <;> omega))) | ((with_reducible refine Below.setCell ?_ ?_ _); rotate_left; (first | omega | (simp <;> omega))) | (with_reducible exact Below.refl _ _) | (with_reducible assumption)))) (Nat.le_refl _)).c).mono ?_; rintro e w' ⟨rfl, rfl⟩))
  refine wp_loop_rounds 1 ?_
  rw [rounds_succ]
  go_upto_region 28 with fail
  refine wp_name ?_
  intro W hW
  have kb : W.heap[w.heap.size]? = some (.cells (Tryd.zeroCells158.setIfInBounds 64 (.int .u8 (c0 : Int))) 158) := by rw [hW]; exact (MapKept.heap_alloc w _).1
  have bW : Below w.heap.size w W := by rw [hW]; (repeat (first | (with_reducible refine Below.drewN ?_) | (with_reducible refine Below.drew ?_) | ((with_reducible refine Below.alloc ?_ ?_ _); rotate_left; (first | omega | (simp <;> omega))) | ((with_reducible refine Below.setCell ?_ ?_ _); rotate_left; (first | omega | (simp <;> omega))) | (with_reducible exact Below.refl _ _) | (with_reducible assumption)))
  clear hW
  have b0 : W.cell? ⟨w.heap.size, 64, none⟩ = some (.int .u8 ((UInt8.ofNat c0).toNat : Int)) := by
    rw [u8_of HC0.out.2]
    exact cell_of kb 64 (by simp)
  have hcv : (convert 125 9 (.slice (some ⟨w.heap.size, 64, none⟩) 1 1)).run Tryd.prog W = .ok (.string ⟨([UInt8.ofNat c0] : List UInt8).toArray⟩) W :=
    run_convert_bytes_back (P := Tryd.prog) W 125 9 5 ⟨w.heap.size, 64, none⟩ 1 [UInt8.ofNat c0] Tryd.underlying125 Tryd.underlying5 Tryd.underlying9 (fun j hj => by
      have hj2 : j = 0 := by simp at hj; omega
      obtain rfl := hj2
      · exact b0)
  clear b0 kb
  rw [HC0.out.1] at hcv
  obtain ⟨RR, hRR⟩ : ∃ RR, RR = ([UInt8.ofNat (hd u0)] : List UInt8).toArray := ⟨_, rfl⟩
  rw [← hRR] at hcv
  have HR := Lib.hid hRR
  clear hRR
  go_wp2
  go_ret2
  exact ⟨by rw [← HR.out]; rfl, by (repeat (first | (with_reducible refine Below.drewN ?_) | (with_reducible refine Below.drew ?_) | ((with_reducible refine Below.alloc ?_ ?_ _); rotate_left; (first | omega | (simp <;> omega))) | ((with_reducible refine Below.setCell ?_ ?_ _); rotate_left; (first | omega | (simp <;> omega))) | (with_reducible exact Below.refl _ _) | (with_reducible assumption)))⟩
set_option maxRecDepth 100000 in
set_option maxHeartbeats 3200000 in
theorem c_fb2 (u0 : Nat) (h1 : 16 ≤ u0) (h2 : u0 < 256) (w : World) (hT : Tb w) : Calls Tryd.prog 101 #[.slice none 0 0, .int .u64 (u0 : Int), .int .i64 16, .bool false, .bool false] w (fun e w' => e = .returned (.tuple #[.slice none 0 0, .string ⟨([UInt8.ofNat (hd (u0 / 16)), UInt8.ofNat (hd u0)] : List UInt8).toArray⟩]) ∧ Below w.heap.size w w') := by
  obtain ⟨u1, hu1⟩ : ∃ u1, u1 = u0 / 16 := ⟨_, rfl⟩
  obtain ⟨d0, hd0⟩ : ∃ d0, d0 = u0 % 16 := ⟨_, rfl⟩
  obtain ⟨c0, hc0⟩ : ∃ c0, c0 = hd d0 := ⟨_, rfl⟩
  have a0 : bits .and .u64 (u0 : Int) 15 = (d0 : Int) := by rw [and15, hd0]
  have s0 : (u0 : Int) / 16 = (u1 : Int) := by omega
  have k0 : (16 : Int) ≤ (u0 : Int) := by omega
  have x0 := ix_digit (d := d0) (by omega)
  rw [← hc0] at x0
  have HC0 : Hid (UInt8.ofNat c0 = UInt8.ofNat (hd (u0)) ∧ c0 < 256) := by
    refine ⟨?_, by rw [hc0]; exact hd_lt _⟩
    rw [hc0, hd_mod (u0), hd_mod (d0), show d0 % 16 = (u0) % 16 by omega]
  obtain ⟨c1, hc1⟩ : ∃ c1, c1 = hd u1 := ⟨_, rfl⟩
  have k1 : ¬ (16 : Int) ≤ (u1 : Int) := by omega
  have x1 := ix_digit (d := u1) (by omega)
  rw [← hc1] at x1
  have HC1 : Hid (UInt8.ofNat c1 = UInt8.ofNat (hd (u0 / 16)) ∧ c1 < 256) := by
    refine ⟨?_, by rw [hc1]; exact hd_lt _⟩
    rw [hc1, hd_mod (u0 / 16), hd_mod (u1), show u1 % 16 = (u0 / 16) % 16 by omega]
  clear hu1 hd0 hc0 hc1 h1 h2
  go_enter Tryd.func101, Tryd.ntmps101
  go_wp2_with (first | (go_at_call 110; refine (c_isPow _).mono ?_; rintro e w' ⟨rfl, rfl⟩) | (go_at_call 111; refine (c_TZ _ (hT.below (B := w.heap.size) (by (repeat (first | (with_reducible refine Below.drewN ?_) | (with_reducible refine Below.drew ?_) | ((with_reducible refine Below.alloc ?_ ?_ _); rotate_left; (first | omega | (simp <;> omega))) | ((with_reducible refine Below.setCell ?_ ?_ _); rotate_left; (first | omega | (simp <;> omega))) | (with_reducible exact Below.refl _ _) | (with_reducible assumption)))) (Nat.le_refl _)).c).mono ?_; rintro e w' ⟨rfl, rfl⟩))
  refine wp_loop_rounds 2 ?_
  rw [rounds_succ]
  go_wp2
  rw [rounds_succ]
  go_upto_region 28 with fail
  refine wp_name ?_
  intro W hW
  have kb : W.heap[w.heap.size]? = some (.cells ((Tryd.zeroCells158.setIfInBounds 64 (.int .u8 (c0 : Int))).setIfInBounds 63 (.int .u8 (c1 : Int))) 158) := by rw [hW]; exact (MapKept.heap_alloc w _).1
  have bW : Below w.heap.size w W := by rw [hW]; (repeat (first | (with_reducible refine Below.drewN ?_) | (with_reducible refine Below.drew ?_) | ((with_reducible refine Below.alloc ?_ ?_ _); rotate_left; (first | omega | (simp <;> omega))) | ((with_reducible refine Below.setCell ?_ ?_ _); rotate_left; (first | omega | (simp <;> omega))) | (with_reducible exact Below.refl _ _) | (with_reducible assumption)))
  clear hW
  have b0 : W.cell? ⟨w.heap.size, 64, none⟩ = some (.int .u8 ((UInt8.ofNat c0).toNat : Int)) := by
    rw [u8_of HC0.out.2]
    exact cell_of kb 64 (by simp)
  have b1 : W.cell? ⟨w.heap.size, 63, none⟩ = some (.int .u8 ((UInt8.ofNat c1).toNat : Int)) := by
    rw [u8_of HC1.out.2]
    exact cell_of kb 63 (by simp)
  have hcv : (convert 125 9 (.slice (some ⟨w.heap.size, 63, none⟩) 2 2)).run Tryd.prog W = .ok (.string ⟨([UInt8.ofNat c1, UInt8.ofNat c0] : List UInt8).toArray⟩) W :=
    run_convert_bytes_back (P := Tryd.prog) W 125 9 5 ⟨w.heap.size, 63, none⟩ 2 [UInt8.ofNat c1, UInt8.ofNat c0] Tryd.underlying125 Tryd.underlying5 Tryd.underlying9 (fun j hj => by
      have hj2 : j = 0 ∨ j = 1 := by simp at hj; omega
      rcases hj2 with rfl | rfl
      · exact b1
      · exact b0)
  clear b0 b1 kb
  rw [HC0.out.1, HC1.out.1] at hcv
  obtain ⟨RR, hRR⟩ : ∃ RR, RR = ([UInt8.ofNat (hd (u0 / 16)), UInt8.ofNat (hd u0)] : List UInt8).toArray := ⟨_, rfl⟩
  rw [← hRR] at hcv
  have HR := Lib.hid hRR
  clear hRR
  go_wp2
  go_ret2
  exact ⟨by rw [← HR.out]; rfl, by (repeat (first | (with_reducible refine Below.drewN ?_) | (with_reducible refine Below.drew ?_) | ((with_reducible refine Below.alloc ?_ ?_ _); rotate_left; (first | omega | (simp <;> omega))) | ((with_reducible refine Below.setCell ?_ ?_ _); rotate_left; (first | omega | (simp <;> omega))) | (with_reducible exact Below.refl _ _) | (with_reducible assumption)))⟩
set_option maxRecDepth 100000 in
set_option maxHeartbeats 3200000 in
theorem c_fb3 (u0 : Nat) (h1 : 256 ≤ u0) (h2 : u0 < 4096) (w : World) (hT : Tb w) : Calls Tryd.prog 101 #[.slice none 0 0, .int .u64 (u0 : Int), .int .i64 16, .bool false, .bool false] w (fun e w' => e = .returned (.tuple #[.slice none 0 0, .string ⟨([UInt8.ofNat (hd (u0 / 256)), UInt8.ofNat (hd (u0 / 16)), UInt8.ofNat (hd u0)] : List UInt8).toArray⟩]) ∧ Below w.heap.size w w') := by
  obtain ⟨u1, hu1⟩ : ∃ u1, u1 = u0 / 16 := ⟨_, rfl⟩
  obtain ⟨u2, hu2⟩ : ∃ u2, u2 = u1 / 16 := ⟨_, rfl⟩
  obtain ⟨d0, hd0⟩ : ∃ d0, d0 = u0 % 16 := ⟨_, rfl⟩
  obtain ⟨c0, hc0⟩ : ∃ c0, c0 = hd d0 := ⟨_, rfl⟩
  have a0 : bits .and .u64 (u0 : Int) 15 = (d0 : Int) := by rw [and15, hd0]
  have s0 : (u0 : Int) / 16 = (u1 : Int) := by omega
  have k0 : (16 : Int) ≤ (u0 : Int) := by omega
  have x0 := ix_digit (d := d0) (by omega)
  rw [← hc0] at x0
  have HC0 : Hid (UInt8.ofNat c0 = UInt8.ofNat (hd (u0)) ∧ c0 < 256) := by
    refine ⟨?_, by rw [hc0]; exact hd_lt _⟩
    rw [hc0, hd_mod (u0), hd_mod (d0), show d0 % 16 = (u0) % 16 by omega]
  obtain ⟨d1, hd1⟩ : ∃ d1, d1 = u1 % 16 := ⟨_, rfl⟩
  obtain ⟨c1, hc1⟩ : ∃ c1, c1 = hd d1 := ⟨_, rfl⟩
  have a1 : bits .and .u64 (u1 : Int) 15 = (d1 : Int) := by rw [and15, hd1]
  have s1 : (u1 : Int) / 16 = (u2 : Int) := by omega
  have k1 : (16 : Int) ≤ (u1 : Int) := by omega
  have x1 := ix_digit (d := d1) (by omega)
  rw [← hc1] at x1
  have HC1 : Hid (UInt8.ofNat c1 = UInt8.ofNat (hd (u0 / 16)) ∧ c1 < 256) := by
    refine ⟨?_, by rw [hc1]; exact hd_lt _⟩
    rw [hc1, hd_mod (u0 / 16), hd_mod (d1), show d1 % 16 = (u0 / 16) % 16 by omega]
  obtain ⟨c2, hc2⟩ : ∃ c2, c2 = hd u2 := ⟨_, rfl⟩
  have k2 : ¬ (16 : Int) ≤ (u2 : Int) := by omega
  have x2 := ix_digit (d := u2) (by omega)
  rw [← hc2] at x2
  have HC2 : Hid (UInt8.ofNat c2 = UInt8.ofNat (hd (u0 / 256)) ∧ c2 < 256) := by
    refine ⟨?_, by rw [hc2]; exact hd_lt _⟩
    rw [hc2, hd_mod (u0 / 256), hd_mod (u2), show u2 % 16 = (u0 / 256) % 16 by omega]
  clear hu1 hu2 hd0 hd1 hc0 hc1 hc2 h1 h2
  go_enter Tryd.func101, Tryd.ntmps101
  go_wp2_with (first | (go_at_call 110; refine (c_isPow _).mono ?_; rintro e w' ⟨rfl, rfl⟩) | (go_at_call 111; refine (c_TZ _ (hT.below (B := w.heap.size) (by (repeat (first | (with_reducible refine Below.drewN ?_) | (with_reducible refine Below.drew ?_) | ((with_reducible refine Below.alloc ?_ ?_ _); rotate_left; (first | omega | (simp <;> omega))) | ((with_reducible refine Below.setCell ?_ ?_ _); rotate_left; (first | omega | (simp <;> omega))) | (with_reducible exact Below.refl _ _) | (with_reducible assumption)))) (Nat.le_refl _)).c).mono ?_; rintro e w' ⟨rfl, rfl⟩))
  refine wp_loop_rounds 3 ?_
  rw [rounds_succ]
  go_wp2
  rw [rounds_succ]
  go_wp2
  rw [rounds_succ]
  go_upto_region 28 with fail
  refine wp_name ?_
  intro W hW
  have kb : W.heap[w.heap.size]? = some (.cells (((Tryd.zeroCells158.setIfInBounds 64 (.int .u8 (c0 : Int))).setIfInBounds 63 (.int .u8 (c1 : Int))).setIfInBounds 62 (.int .u8 (c2 : Int))) 158) := by rw [hW]; exact (MapKept.heap_alloc w _).1
  have bW : Below w.heap.size w W := by rw [hW]; (repeat (first | (with_reducible refine Below.drewN ?_) | (with_reducible refine Below.drew ?_) | ((with_reducible refine Below.alloc ?_ ?_ _); rotate_left; (first | omega | (simp <;> omega))) | ((with_reducible refine Below.setCell ?_ ?_ _); rotate_left; (first | omega | (simp <;> omega))) | (with_reducible exact Below.refl _ _) | (with_reducible assumption)))
  clear hW
  have b0 : W.cell? ⟨w.heap.size, 64, none⟩ = some (.int .u8 ((UInt8.ofNat c0).toNat : Int)) := by
    rw [u8_of HC0.out.2]
    exact cell_of kb 64 (by simp)
  have b1 : W.cell? ⟨w.heap.size, 63, none⟩ = some (.int .u8 ((UInt8.ofNat c1).toNat : Int)) := by
    rw [u8_of HC1.out.2]
    exact cell_of kb 63 (by simp)
  have b2 : W.cell? ⟨w.heap.size, 62, none⟩ = some (.int .u8 ((UInt8.ofNat c2).toNat : Int)) := by
    rw [u8_of HC2.out.2]
    exact cell_of kb 62 (by simp)
  have hcv : (convert 125 9 (.slice (some ⟨w.heap.size, 62, none⟩) 3 3)).run Tryd.prog W = .ok (.string ⟨([UInt8.ofNat c2, UInt8.ofNat c1, UInt8.ofNat c0] : List UInt8).toArray⟩) W :=
    run_convert_bytes_back (P := Tryd.prog) W 125 9 5 ⟨w.heap.size, 62, none⟩ 3 [UInt8.ofNat c2, UInt8.ofNat c1, UInt8.ofNat c0] Tryd.underlying125 Tryd.underlying5 Tryd.underlying9 (fun j hj => by
      have hj2 : j = 0 ∨ j = 1 ∨ j = 2 := by simp at hj; omega
      rcases hj2 with rfl | rfl | rfl
      · exact b2
      · exact b1
      · exact b0)
  clear b0 b1 b2 kb
  rw [HC0.out.1, HC1.out.1, HC2.out.1] at hcv
  obtain ⟨RR, hRR⟩ : ∃ RR, RR = ([UInt8.ofNat (hd (u0 / 256)), UInt8.ofNat (hd (u0 / 16)), UInt8.ofNat (hd u0)] : List UInt8).toArray := ⟨_, rfl⟩
  rw [← hRR] at hcv
  have HR := Lib.hid hRR
  clear hRR
  go_wp2
  go_ret2
  exact ⟨by rw [← HR.out]; rfl, by (repeat (first | (with_reducible refine Below.drewN ?_) | (with_reducible refine Below.drew ?_) | ((with_reducible refine Below.alloc ?_ ?_ _); rotate_left; (first | omega | (simp <;> omega))) | ((with_reducible refine Below.setCell ?_ ?_ _); rotate_left; (first | omega | (simp <;> omega))) | (with_reducible exact Below.refl _ _) | (with_reducible assumption)))⟩
set_option maxRecDepth 100000 in
set_option maxHeartbeats 3200000 in
theorem c_fb4 (u0 : Nat) (h1 : 4096 ≤ u0) (h2 : u0 < 65536) (w : World) (hT : Tb w) : Calls Tryd.prog 101 #[.slice none 0 0, .int .u64 (u0 : Int), .int .i64 16, .bool false, .bool false] w (fun e w' => e = .returned (.tuple #[.slice none 0 0, .string ⟨([UInt8.ofNat (hd (u0 / 4096)), UInt8.ofNat (hd (u0 / 256)), UInt8.ofNat (hd (u0 / 16)), UInt8.ofNat (hd u0)] : List UInt8).toArray⟩]) ∧ Below w.heap.size w w') := by
  obtain ⟨u1, hu1⟩ : ∃ u1, u1 = u0 / 16 := ⟨_, rfl⟩
  obtain ⟨u2, hu2⟩ : ∃ u2, u2 = u1 / 16 := ⟨_, rfl⟩
  obtain ⟨u3, hu3⟩ : ∃ u3, u3 = u2 / 16 := ⟨_, rfl⟩
  obtain ⟨d0, hd0⟩ : ∃ d0, d0 = u0 % 16 := ⟨_, rfl⟩
  obtain ⟨c0, hc0⟩ : ∃ c0, c0 = hd d0 := ⟨_, rfl⟩
  have a0 : bits .and .u64 (u0 : Int) 15 = (d0 : Int) := by rw [and15, hd0]
  have s0 : (u0 : Int) / 16 = (u1 : Int) := by omega
  have k0 : (16 : Int) ≤ (u0 : Int) := by omega
  have x0 := ix_digit (d := d0) (by omega)
  rw [← hc0] at x0
  have HC0 : Hid (UInt8.ofNat c0 = UInt8.ofNat (hd (u0)) ∧ c0 < 256) := by
    refine ⟨?_, by rw [hc0]; exact hd_lt _⟩
    rw [hc0, hd_mod (u0), hd_mod (d0), show d0 % 16 = (u0) % 16 by omega]
  obtain ⟨d1, hd1⟩ : ∃ d1, d1 = u1 % 16 := ⟨_, rfl⟩
  obtain ⟨c1, hc1⟩ : ∃ c1, c1 = hd d1 := ⟨_, rfl⟩
  have a1 : bits .and .u64 (u1 : Int) 15 = (d1 : Int) := by rw [and15, hd1]
  have s1 : (u1 : Int) / 16 = (u2 : Int) := by omega
  have k1 : (16 : Int) ≤ (u1 : Int) := by omega
  have x1 := ix_digit (d := d1) (by omega)
  rw [← hc1] at x1
  have HC1 : Hid (UInt8.ofNat c1 = UInt8.ofNat (hd (u0 / 16)) ∧ c1 < 256) := by
    refine ⟨?_, by rw [hc1]; exact hd_lt _⟩
    rw [hc1, hd_mod (u0 / 16), hd_mod (d1), show d1 % 16 = (u0 / 16) % 16 by omega]
  obtain ⟨d2, hd2⟩ : ∃ d2, d2 = u2 % 16 := ⟨_, rfl⟩
  obtain ⟨c2, hc2⟩ : ∃ c2, c2 = hd d2 := ⟨_, rfl⟩
  have a2 : bits .and .u64 (u2 : Int) 15 = (d2 : Int) := by rw [and15, hd2]
  have s2 : (u2 : Int) / 16 = (u3 : Int) := by omega
  have k2 : (16 : Int) ≤ (u2 : Int) := by omega
  have x2 := ix_digit (d := d2) (by omega)
  rw [← hc2] at x2
  have HC2 : Hid (UInt8.ofNat c2 = UInt8.ofNat (hd (u0 / 256)) ∧ c2 < 256) := by
    refine ⟨?_, by rw [hc2]; exact hd_lt _⟩
    rw [hc2, hd_mod (u0 / 256), hd_mod (d2), show d2 % 16 = (u0 / 256) % 16 by omega]
  obtain ⟨c3, hc3⟩ : ∃ c3, c3 = hd u3 := ⟨_, rfl⟩
  have k3 : ¬ (16 : Int) ≤ (u3 : Int) := by omega
  have x3 := ix_digit (d := u3) (by omega)
  rw [← hc3] at x3
  have HC3 : Hid (UInt8.ofNat c3 = UInt8.ofNat (hd (u0 / 4096)) ∧ c3 < 256) := by
    refine ⟨?_, by rw [hc3]; exact hd_lt _⟩
    rw [hc3, hd_mod (u0 / 4096), hd_mod (u3), show u3 % 16 = (u0 / 4096) % 16 by omega]
  clear hu1 hu2 hu3 hd0 hd1 hd2 hc0 hc1 hc2 hc3 h1 h2
  go_enter Tryd.func101, Tryd.ntmps101
  go_wp2_with (first | (go_at_call 110; refine (c_isPow _).mono ?_; rintro e w' ⟨rfl, rfl⟩) | (go_at_call 111; refine (c_TZ _ (hT.below (B := w.heap.size) (by (repeat (first | (with_reducible refine Below.drewN ?_) | (with_reducible refine Below.drew ?_) | ((with_reducible refine Below.alloc ?_ ?_ _); rotate_left; (first | omega | (simp <;> omega))) | ((with_reducible refine Below.setCell ?_ ?_ _); rotate_left; (first | omega | (simp <;> omega))) | (with_reducible exact Below.refl _ _) | (with_reducible assumption)))) (Nat.le_refl _)).c).mono ?_; rintro e w' ⟨rfl, rfl⟩))
  refine wp_loop_rounds 4 ?_
  rw [rounds_succ]
  go_wp2
  rw [rounds_succ]
  go_wp2
  rw [rounds_succ]
  go_wp2
  rw [rounds_succ]
  go_upto_region 28 with fail
  refine wp_name ?_
  intro W hW
  have kb : W.heap[w.heap.size]? = some (.cells ((((Tryd.zeroCells158.setIfInBounds 64 (.int .u8 (c0 : Int))).setIfInBounds 63 (.int .u8 (c1 : Int))).setIfInBounds 62 (.int .u8 (c2 : Int))).setIfInBounds 61 (.int .u8 (c3 : Int))) 158) := by rw [hW]; exact (MapKept.heap_alloc w _).1
  have bW : Below w.heap.size w W := by rw [hW]; (repeat (first | (with_reducible refine Below.drewN ?_) | (with_reducible refine Below.drew ?_) | ((with_reducible refine Below.alloc ?_ ?_ _); rotate_left; (first | omega | (simp <;> omega))) | ((with_reducible refine Below.setCell ?_ ?_ _); rotate_left; (first | omega | (simp <;> omega))) | (with_reducible exact Below.refl _ _) | (with_reducible assumption)))
  clear hW
  have b0 : W.cell? ⟨w.heap.size, 64, none⟩ = some (.int .u8 ((UInt8.ofNat c0).toNat : Int)) := by
    rw [u8_of HC0.out.2]
    exact cell_of kb 64 (by simp)
  have b1 : W.cell? ⟨w.heap.size, 63, none⟩ = some (.int .u8 ((UInt8.ofNat c1).toNat : Int)) := by
    rw [u8_of HC1.out.2]
    exact cell_of kb 63 (by simp)
  have b2 : W.cell? ⟨w.heap.size, 62, none⟩ = some (.int .u8 ((UInt8.ofNat c2).toNat : Int)) := by
    rw [u8_of HC2.out.2]
    exact cell_of kb 62 (by simp)
  have b3 : W.cell? ⟨w.heap.size, 61, none⟩ = some (.int .u8 ((UInt8.ofNat c3).toNat : Int)) := by
    rw [u8_of HC3.out.2]
    exact cell_of kb 61 (by simp)
  have hcv : (convert 125 9 (.slice (some ⟨w.heap.size, 61, none⟩) 4 4)).run Tryd.prog W = .ok (.string ⟨([UInt8.ofNat c3, UInt8.ofNat c2, UInt8.ofNat c1, UInt8.ofNat c0] : List UInt8).toArray⟩) W :=
    run_convert_bytes_back (P := Tryd.prog) W 125 9 5 ⟨w.heap.size, 61, none⟩ 4 [UInt8.ofNat c3, UInt8.ofNat c2, UInt8.ofNat c1, UInt8.ofNat c0] Tryd.underlying125 Tryd.underlying5 Tryd.underlying9 (fun j hj => by
      have hj2 : j = 0 ∨ j = 1 ∨ j = 2 ∨ j = 3 := by simp at hj; omega
      rcases hj2 with rfl | rfl | rfl | rfl
      · exact b3
      · exact b2
      · exact b1
      · exact b0)
  clear b0 b1 b2 b3 kb
  rw [HC0.out.1, HC1.out.1, HC2.out.1, HC3.out.1] at hcv
  obtain ⟨RR, hRR⟩ : ∃ RR, RR = ([UInt8.ofNat (hd (u0 / 4096)), UInt8.ofNat (hd (u0 / 256)), UInt8.ofNat (hd (u0 / 16)), UInt8.ofNat (hd u0)] : List UInt8).toArray := ⟨_, rfl⟩
  rw [← hRR] at hcv
  have HR := Lib.hid hRR
  clear hRR
  go_wp2
  go_ret2
  exact ⟨by rw [← HR.out]; rfl, by (repeat (first | (with_reducible refine Below.drewN ?_) | (with_reducible refine Below.drew ?_) | ((with_reducible refine Below.alloc ?_ ?_ _); rotate_left; (first | omega | (simp <;> omega))) | ((with_reducible refine Below.setCell ?_ ?_ _); rotate_left; (first | omega | (simp <;> omega))) | (with_reducible exact Below.refl _ _) | (with_reducible assumption)))⟩
set_option maxRecDepth 100000 in
set_option maxHeartbeats 3200000 in
theorem c_fb5 (u0 : Nat) (h1 : 65536 ≤ u0) (h2 : u0 < 1048576) (w : World) (hT : Tb w) : Calls Tryd.prog 101 #[.slice none 0 0, .int .u64 (u0 : Int), .int .i64 16, .bool false, .bool false] w (fun e w' => e = .returned (.tuple #[.slice none 0 0, .string ⟨([UInt8.ofNat (hd (u0 / 65536)), UInt8.ofNat (hd (u0 / 4096)), UInt8.ofNat (hd (u0 / 256)), UInt8.ofNat (hd (u0 / 16)), UInt8.ofNat (hd u0)] : List UInt8).toArray⟩]) ∧ Below w.heap.size w w') := by
  obtain ⟨u1, hu1⟩ : ∃ u1, u1 = u0 / 16 := ⟨_, rfl⟩
  obtain ⟨u2, hu2⟩ : ∃ u2, u2 = u1 / 16 := ⟨_, rfl⟩
  obtain ⟨u3, hu3⟩ : ∃ u3, u3 = u2 / 16 := ⟨_, rfl⟩
  obtain ⟨u4, hu4⟩ : ∃ u4, u4 = u3 / 16 := ⟨_, rfl⟩
  obtain ⟨d0, hd0⟩ : ∃ d0, d0 = u0 % 16 := ⟨_, rfl⟩
  obtain ⟨c0, hc0⟩ : ∃ c0, c0 = hd d0 := ⟨_, rfl⟩
  have a0 : bits .and .u64 (u0 : Int) 15 = (d0 : Int) := by rw [and15, hd0]
  have s0 : (u0 : Int) / 16 = (u1 : Int) := by omega
  have k0 : (16 : Int) ≤ (u0 : Int) := by omega
  have x0 := ix_digit (d := d0) (by omega)
  rw [← hc0] at x0
  have HC0 : Hid (UInt8.ofNat c0 = UInt8.ofNat (hd (u0)) ∧ c0 < 256) := by
    refine ⟨?_, by rw [hc0]; exact hd_lt _⟩
    rw [hc0, hd_mod (u0), hd_mod (d0), show d0 % 16 = (u0) % 16 by omega]
  obtain ⟨d1, hd1⟩ : ∃ d1, d1 = u1 % 16 := ⟨_, rfl⟩
  obtain ⟨c1, hc1⟩ : ∃ c1, c1 = hd d1 := ⟨_, rfl⟩
  have a1 : bits .and .u64 (u1 : Int) 15 = (d1 : Int) := by rw [and15, hd1]
  have s1 : (u1 : Int) / 16 = (u2 : Int) := by omega
  have k1 : (16 : Int) ≤ (u1 : Int) := by omega
  have x1 := ix_digit (d := d1) (by omega)
  rw [← hc1] at x1
  have HC1 : Hid (UInt8.ofNat c1 = UInt8.ofNat (hd (u0 / 16)) ∧ c1 < 256) := by
    refine ⟨?_, by rw [hc1]; exact hd_lt _⟩
    rw [hc1, hd_mod (u0 / 16), hd_mod (d1), show d1 % 16 = (u0 / 16) % 16 by omega]
  obtain ⟨d2, hd2⟩ : ∃ d2, d2 = u2 % 16 := ⟨_, rfl⟩
  obtain ⟨c2, hc2⟩ : ∃ c2, c2 = hd d2 := ⟨_, rfl⟩
  have a2 : bits .and .u64 (u2 : Int) 15 = (d2 : Int) := by rw [and15, hd2]
  have s2 : (u2 : Int) / 16 = (u3 : Int) := by omega
  have k2 : (16 : Int) ≤ (u2 : Int) := by omega
  have x2 := ix_digit (d := d2) (by omega)
  rw [← hc2] at x2
  have HC2 : Hid (UInt8.ofNat c2 = UInt8.ofNat (hd (u0 / 256)) ∧ c2 < 256) := by
    refine ⟨?_, by rw [hc2]; exact hd_lt _⟩
    rw [hc2, hd_mod (u0 / 256), hd_mod (d2), show d2 % 16 = (u0 / 256) % 16 by omega]
  obtain ⟨d3, hd3⟩ : ∃ d3, d3 = u3 % 16 := ⟨_, rfl⟩
  obtain ⟨c3, hc3⟩ : ∃ c3, c3 = hd d3 := ⟨_, rfl⟩
  have a3 : bits .and .u64 (u3 : Int) 15 = (d3 : Int) := by rw [and15, hd3]
  have s3 : (u3 : Int) / 16 = (u4 : Int) := by omega
  have k3 : (16 : Int) ≤ (u3 : Int) := by omega
  have x3 := ix_digit (d := d3) (by omega)
  rw [← hc3] at x3
  have HC3 : Hid (UInt8.ofNat c3 = UInt8.ofNat (hd (u0 / 4096)) ∧ c3 < 256) := by
    refine ⟨?_, by rw [hc3]; exact hd_lt _⟩
    rw [hc3, hd_mod (u0 / 4096), hd_mod (d3), show d3 % 16 = (u0 / 4096) % 16 by omega]
  obtain ⟨c4, hc4⟩ : ∃ c4, c4 = hd u4 := ⟨_, rfl⟩
  have k4 : ¬ (16 : Int) ≤ (u4 : Int) := by omega
  have x4 := ix_digit (d := u4) (by omega)
  rw [← hc4] at x4
  have HC4 : Hid (UInt8.ofNat c4 = UInt8.ofNat (hd (u0 / 65536)) ∧ c4 < 256) := by
    refine ⟨?_, by rw [hc4]; exact hd_lt _⟩
    rw [hc4, hd_mod (u0 / 65536), hd_mod (u4), show u4 % 16 = (u0 / 65536) % 16 by omega]
  clear hu1 hu2 hu3 hu4 hd0 hd1 hd2 hd3 hc0 hc1 hc2 hc3 hc4 h1 h2
  go_enter Tryd.func101, Tryd.ntmps101
  go_wp2_with (first | (go_at_call 110; refine (c_isPow _).mono ?_; rintro e w' ⟨rfl, rfl⟩) | (go_at_call 111; refine (c_TZ _ (hT.below (B := w.heap.size) (by (repeat (first | (with_reducible refine Below.drewN ?_) | (with_reducible refine Below.drew ?_) | ((with_reducible refine Below.alloc ?_ ?_ _); rotate_left; (first | omega | (simp <;> omega))) | ((with_reducible refine Below.setCell ?_ ?_ _); rotate_left; (first | omega | (simp <;> omega))) | (with_reducible exact Below.refl _ _) | (with_reducible assumption)))) (Nat.le_refl _)).c).mono ?_; rintro e w' ⟨rfl, rfl⟩))
  refine wp_loop_rounds 5 ?_
  rw [rounds_succ]
  go_wp2
  rw [rounds_succ]
  go_wp2
  rw [rounds_succ]
  go_wp2
  rw [rounds_succ]
  go_wp2
  rw [rounds_succ]
  go_upto_region 28 with fail
  refine wp_name ?_
  intro W hW
  have kb : W.heap[w.heap.size]? = some (.cells (((((Tryd.zeroCells158.setIfInBounds 64 (.int .u8 (c0 : Int))).setIfInBounds 63 (.int .u8 (c1 : Int))).setIfInBounds 62 (.int .u8 (c2 : Int))).setIfInBounds 61 (.int .u8 (c3 : Int))).setIfInBounds 60 (.int .u8 (c4 : Int))) 158) := by rw [hW]; exact (MapKept.heap_alloc w _).1
  have bW : Below w.heap.size w W := by rw [hW]; (repeat (first | (with_reducible refine Below.drewN ?_) | (with_reducible refine Below.drew ?_) | ((with_reducible refine Below.alloc ?_ ?_ _); rotate_left; (first | omega | (simp <;> omega))) | ((with_reducible refine Below.setCell ?_ ?_ _); rotate_left; (first | omega | (simp <;> omega))) | (with_reducible exact Below.refl _ _) | (with_reducible assumption)))
  clear hW
  have b0 : W.cell? ⟨w.heap.size, 64, none⟩ = some (.int .u8 ((UInt8.ofNat c0).toNat : Int)) := by
    rw [u8_of HC0.out.2]
    exact cell_of kb 64 (by simp)
  have b1 : W.cell? ⟨w.heap.size, 63, none⟩ = some (.int .u8 ((UInt8.ofNat c1).toNat : Int)) := by
    rw [u8_of HC1.out.2]
    exact cell_of kb 63 (by simp)
  have b2 : W.cell? ⟨w.heap.size, 62, none⟩ = some (.int .u8 ((UInt8.ofNat c2).toNat : Int)) := by
    rw [u8_of HC2.out.2]
    exact cell_of kb 62 (by simp)
  have b3 : W.cell? ⟨w.heap.size, 61, none⟩ = some (.int .u8 ((UInt8.ofNat c3).toNat : Int)) := by
    rw [u8_of HC3.out.2]
    exact cell_of kb 61 (by simp)
  have b4 : W.cell? ⟨w.heap.size, 60, none⟩ = some (.int .u8 ((UInt8.ofNat c4).toNat : Int)) := by
    rw [u8_of HC4.out.2]
    exact cell_of kb 60 (by simp)
  have hcv : (convert 125 9 (.slice (some ⟨w.heap.size, 60, none⟩) 5 5)).run Tryd.prog W = .ok (.string ⟨([UInt8.ofNat c4, UInt8.ofNat c3, UInt8.ofNat c2, UInt8.ofNat c1, UInt8.ofNat c0] : List UInt8).toArray⟩) W :=
    run_convert_bytes_back (P := Tryd.prog) W 125 9 5 ⟨w.heap.size, 60, none⟩ 5 [UInt8.ofNat c4, UInt8.ofNat c3, UInt8.ofNat c2, UInt8.ofNat c1, UInt8.ofNat c0] Tryd.underlying125 Tryd.underlying5 Tryd.underlying9 (fun j hj => by
      have hj2 : j = 0 ∨ j = 1 ∨ j = 2 ∨ j = 3 ∨ j = 4 := by simp at hj; omega
      rcases hj2 with rfl | rfl | rfl | rfl | rfl
      · exact b4
      · exact b3
      · exact b2
      · exact b1
      · exact b0)
  clear b0 b1 b2 b3 b4 kb
  rw [HC0.out.1, HC1.out.1, HC2.out.1, HC3.out.1, HC4.out.1] at hcv
  obtain ⟨RR, hRR⟩ : ∃ RR, RR = ([UInt8.ofNat (hd (u0 / 65536)), UInt8.ofNat (hd (u0 / 4096)), UInt8.ofNat (hd (u0 / 256)), UInt8.ofNat (hd (u0 / 16)), UInt8.ofNat (hd u0)] : List UInt8).toArray := ⟨_, rfl⟩
  rw [← hRR] at hcv
  have HR := Lib.hid hRR
  clear hRR
  go_wp2
  go_ret2
  exact ⟨by rw [← HR.out]; rfl, by (repeat (first | (with_reducible refine Below.drewN ?_) | (with_reducible refine Below.drew ?_) | ((with_reducible refine Below.alloc ?_ ?_ _); rotate_left; (first | omega | (simp <;> omega))) | ((with_reducible refine Below.setCell ?_ ?_ _); rotate_left; (first | omega | (simp <;> omega))) | (with_reducible exact Below.refl _ _) | (with_reducible assumption)))⟩
set_option maxRecDepth 100000 in
set_option maxHeartbeats 3200000 in
theorem c_fb6 (u0 : Nat) (h1 : 1048576 ≤ u0) (h2 : u0 < 16777216) (w : World) (hT : Tb w) : Calls Tryd.prog 101 #[.slice none 0 0, .int .u64 (u0 : Int), .int .i64 16, .bool false, .bool false] w (fun e w' => e = .returned (.tuple #[.slice none 0 0, .string ⟨([UInt8.ofNat (hd (u0 / 1048576)), UInt8.ofNat (hd (u0 / 65536)), UInt8.ofNat (hd (u0 / 4096)), UInt8.ofNat (hd (u0 / 256)), UInt8.ofNat (hd (u0 / 16)), UInt8.ofNat (hd u0)] : List UInt8).toArray⟩]) ∧ Below w.heap.size w w') := by
  obtain ⟨u1, hu1⟩ : ∃ u1, u1 = u0 / 16 := ⟨_, rfl⟩
  obtain ⟨u2, hu2⟩ : ∃ u2, u2 = u1 / 16 := ⟨_, rfl⟩
  obtain ⟨u3, hu3⟩ : ∃ u3, u3 = u2 / 16 := ⟨_, rfl⟩
  obtain ⟨u4, hu4⟩ : ∃ u4, u4 = u3 / 16 := ⟨_, rfl⟩
  obtain ⟨u5, hu5⟩ : ∃ u5, u5 = u4 / 16 := ⟨_, rfl⟩
  obtain ⟨d0, hd0⟩ : ∃ d0, d0 = u0 % 16 := ⟨_, rfl⟩
  obtain ⟨c0, hc0⟩ : ∃ c0, c0 = hd d0 := ⟨_, rfl⟩
  have a0 : bits .and .u64 (u0 : Int) 15 = (d0 : Int) := by rw [and15, hd0]
  have s0 : (u0 : Int) / 16 = (u1 : Int) := by omega
  have k0 : (16 : Int) ≤ (u0 : Int) := by omega
  have x0 := ix_digit (d := d0) (by omega)
  rw [← hc0] at x0
  have HC0 : Hid (UInt8.ofNat c0 = UInt8.ofNat (hd (u0)) ∧ c0 < 256) := by
    refine ⟨?_, by rw [hc0]; exact hd_lt _⟩
    rw [hc0, hd_mod (u0), hd_mod (d0), show d0 % 16 = (u0) % 16 by omega]
  obtain ⟨d1, hd1⟩ : ∃ d1, d1 = u1 % 16 := ⟨_, rfl⟩
  obtain ⟨c1, hc1⟩ : ∃ c1, c1 = hd d1 := ⟨_, rfl⟩
  have a1 : bits .and .u64 (u1 : Int) 15 = (d1 : Int) := by rw [and15, hd1]
  have s1 : (u1 : Int) / 16 = (u2 : Int) := by omega
  have k1 : (16 : Int) ≤ (u1 : Int) := by omega
  have x1 := ix_digit (d := d1) (by omega)
  rw [← hc1] at x1
  have HC1 : Hid (UInt8.ofNat c1 = UInt8.ofNat (hd (u0 / 16)) ∧ c1 < 256) := by
    refine ⟨?_, by rw [hc1]; exact hd_lt _⟩
    rw [hc1, hd_mod (u0 / 16), hd_mod (d1), show d1 % 16 = (u0 / 16) % 16 by omega]
  obtain ⟨d2, hd2⟩ : ∃ d2, d2 = u2 % 16 := ⟨_, rfl⟩
  obtain ⟨c2, hc2⟩ : ∃ c2, c2 = hd d2 := ⟨_, rfl⟩
  have a2 : bits .and .u64 (u2 : Int) 15 = (d2 : Int) := by rw [and15, hd2]
  have s2 : (u2 : Int) / 16 = (u3 : Int) := by omega
  have k2 : (16 : Int) ≤ (u2 : Int) := by omega
  have x2 := ix_digit (d := d2) (by omega)
  rw [← hc2] at x2
  have HC2 : Hid (UInt8.ofNat c2 = UInt8.ofNat (hd (u0 / 256)) ∧ c2 < 256) := by
    refine ⟨?_, by rw [hc2]; exact hd_lt _⟩
    rw [hc2, hd_mod (u0 / 256), hd_mod (d2), show d2 % 16 = (u0 / 256) % 16 by omega]
  obtain ⟨d3, hd3⟩ : ∃ d3, d3 = u3 % 16 := ⟨_, rfl⟩
  obtain ⟨c3, hc3⟩ : ∃ c3, c3 = hd d3 := ⟨_, rfl⟩
  have a3 : bits .and .u64 (u3 : Int) 15 = (d3 : Int) := by rw [and15, hd3]
  have s3 : (u3 : Int) / 16 = (u4 : Int) := by omega
  have k3 : (16 : Int) ≤ (u3 : Int) := by omega
  have x3 := ix_digit (d := d3) (by omega)
  rw [← hc3] at x3
  have HC3 : Hid (UInt8.ofNat c3 = UInt8.ofNat (hd (u0 / 4096)) ∧ c3 < 256) := by
    refine ⟨?_, by rw [hc3]; exact hd_lt _⟩
    rw [hc3, hd_mod (u0 / 4096), hd_mod (d3), show d3 % 16 = (u0 / 4096) % 16 by omega]
  obtain ⟨d4, hd4⟩ : ∃ d4, d4 = u4 % 16 := ⟨_, rfl⟩
  obtain ⟨c4, hc4⟩ : ∃ c4, c4 = hd d4 := ⟨_, rfl⟩
  have a4 : bits .and .u64 (u4 : Int) 15 = (d4 : Int) := by rw [and15, hd4]
  have s4 : (u4 : Int) / 16 = (u5 : Int) := by omega
  have k4 : (16 : Int) ≤ (u4 : Int) := by omega
  have x4 := ix_digit (d := d4) (by omega)
  rw [← hc4] at x4
  have HC4 : Hid (UInt8.ofNat c4 = UInt8.ofNat (hd (u0 / 65536)) ∧ c4 < 256) := by
    refine ⟨?_, by rw [hc4]; exact hd_lt _⟩
    rw [hc4, hd_mod (u0 / 65536), hd_mod (d4), show d4 % 16 = (u0 / 65536) % 16 by omega]
  obtain ⟨c5, hc5⟩ : ∃ c5, c5 = hd u5 := ⟨_, rfl⟩
  have k5 : ¬ (16 : Int) ≤ (u5 : Int) := by omega
  have x5 := ix_digit (d := u5) (by omega)
  rw [← hc5] at x5
  have HC5 : Hid (UInt8.ofNat c5 = UInt8.ofNat (hd (u0 / 1048576)) ∧ c5 < 256) := by
    refine ⟨?_, by rw [hc5]; exact hd_lt _⟩
    rw [hc5, hd_mod (u0 / 1048576), hd_mod (u5), show u5 % 16 = (u0 / 1048576) % 16 by omega]
  clear hu1 hu2 hu3 hu4 hu5 hd0 hd1 hd2 hd3 hd4 hc0 hc1 hc2 hc3 hc4 hc5 h1 h2
  go_enter Tryd.func101, Tryd.ntmps101
  go_wp2_with (first | (go_at_call 110; refine (c_isPow _).mono ?_; rintro e w' ⟨rfl, rfl⟩) | (go_at_call 111; refine (c_TZ _ (hT.below (B := w.heap.size) (by (repeat (first | (with_reducible refine Below.drewN ?_) | (with_reducible refine Below.drew ?_) | ((with_reducible refine Below.alloc ?_ ?_ _); rotate_left; (first | omega | (simp <;> omega))) | ((with_reducible refine Below.setCell ?_ ?_ _); rotate_left; (first | omega | (simp <;> omega))) | (with_reducible exact Below.refl _ _) | (with_reducible assumption)))) (Nat.le_refl _)).c).mono ?_; rintro e w' ⟨rfl, rfl⟩))
  refine wp_loop_rounds 6 ?_
  rw [rounds_succ]
  go_wp2
  rw [rounds_succ]
  go_wp2
  rw [rounds_succ]
  go_wp2
  rw [rounds_succ]
  go_wp2
  rw [rounds_succ]
  go_wp2
  rw [rounds_succ]
  go_upto_region 28 with fail
  refine wp_name ?_
  intro W hW
  have kb : W.heap[w.heap.size]? = some (.cells ((((((Tryd.zeroCells158.setIfInBounds 64 (.int .u8 (c0 : Int))).setIfInBounds 63 (.int .u8 (c1 : Int))).setIfInBounds 62 (.int .u8 (c2 : Int))).setIfInBounds 61 (.int .u8 (c3 : Int))).setIfInBounds 60 (.int .u8 (c4 : Int))).setIfInBounds 59 (.int .u8 (c5 : Int))) 158) := by rw [hW]; exact (MapKept.heap_alloc w _).1
  have bW : Below w.heap.size w W := by rw [hW]; (repeat (first | (with_reducible refine Below.drewN ?_) | (with_reducible refine Below.drew ?_) | ((with_reducible refine Below.alloc ?_ ?_ _); rotate_left; (first | omega | (simp <;> omega))) | ((with_reducible refine Below.setCell ?_ ?_ _); rotate_left; (first | omega | (simp <;> omega))) | (with_reducible exact Below.refl _ _) | (with_reducible assumption)))
  clear hW
  have b0 : W.cell? ⟨w.heap.size, 64, none⟩ = some (.int .u8 ((UInt8.ofNat c0).toNat : Int)) := by
    rw [u8_of HC0.out.2]
    exact cell_of kb 64 (by simp)
  have b1 : W.cell? ⟨w.heap.size, 63, none⟩ = some (.int .u8 ((UInt8.ofNat c1).toNat : Int)) := by
    rw [u8_of HC1.out.2]
    exact cell_of kb 63 (by simp)
  have b2 : W.cell? ⟨w.heap.size, 62, none⟩ = some (.int .u8 ((UInt8.ofNat c2).toNat : Int)) := by
    rw [u8_of HC2.out.2]
    exact cell_of kb 62 (by simp)
  have b3 : W.cell? ⟨w.heap.size, 61, none⟩ = some (.int .u8 ((UInt8.ofNat c3).toNat : Int)) := by
    rw [u8_of HC3.out.2]
    exact cell_of kb 61 (by simp)
  have b4 : W.cell? ⟨w.heap.size, 60, none⟩ = some (.int .u8 ((UInt8.ofNat c4).toNat : Int)) := by
    rw [u8_of HC4.out.2]
    exact cell_of kb 60 (by simp)
  have b5 : W.cell? ⟨w.heap.size, 59, none⟩ = some (.int .u8 ((UInt8.ofNat c5).toNat : Int)) := by
    rw [u8_of HC5.out.2]
    exact cell_of kb 59 (by simp)
  have hcv : (convert 125 9 (.slice (some ⟨w.heap.size, 59, none⟩) 6 6)).run Tryd.prog W = .ok (.string ⟨([UInt8.ofNat c5, UInt8.ofNat c4, UInt8.ofNat c3, UInt8.ofNat c2, UInt8.ofNat c1, UInt8.ofNat c0] : List UInt8).toArray⟩) W :=
    run_convert_bytes_back (P := Tryd.prog) W 125 9 5 ⟨w.heap.size, 59, none⟩ 6 [UInt8.ofNat c5, UInt8.ofNat c4, UInt8.ofNat c3, UInt8.ofNat c2, UInt8.ofNat c1, UInt8.ofNat c0] Tryd.underlying125 Tryd.underlying5 Tryd.underlying9 (fun j hj => by
      have hj2 : j = 0 ∨ j = 1 ∨ j = 2 ∨ j = 3 ∨ j = 4 ∨ j = 5 := by simp at hj; omega
      rcases hj2 with rfl | rfl | rfl | rfl | rfl | rfl
      · exact b5
      · exact b4
      · exact b3
      · exact b2
      · exact b1
      · exact b0)
  clear b0 b1 b2 b3 b4 b5 kb
  rw [HC0.out.1, HC1.out.1, HC2.out.1, HC3.out.1, HC4.out.1, HC5.out.1] at hcv
  obtain ⟨RR, hRR⟩ : ∃ RR, RR = ([UInt8.ofNat (hd (u0 / 1048576)), UInt8.ofNat (hd (u0 / 65536)), UInt8.ofNat (hd (u0 / 4096)), UInt8.ofNat (hd (u0 / 256)), UInt8.ofNat (hd (u0 / 16)), UInt8.ofNat (hd u0)] : List UInt8).toArray := ⟨_, rfl⟩
  rw [← hRR] at hcv
  have HR := Lib.hid hRR
  clear hRR
  go_wp2
  go_ret2
  exact ⟨by rw [← HR.out]; rfl, by (repeat (first | (with_reducible refine Below.drewN ?_) | (with_reducible refine Below.drew ?_) | ((with_reducible refine Below.alloc ?_ ?_ _); rotate_left; (first | omega | (simp <;> omega))) | ((with_reducible refine Below.setCell ?_ ?_ _); rotate_left; (first | omega | (simp <;> omega))) | (with_reducible exact Below.refl _ _) | (with_reducible assumption)))⟩
set_option maxRecDepth 100000 in
set_option maxHeartbeats 3200000 in
theorem c_fb7 (u0 : Nat) (h1 : 16777216 ≤ u0) (h2 : u0 < 268435456) (w : World) (hT : Tb w) : Calls Tryd.prog 101 #[.slice none 0 0, .int .u64 (u0 : Int), .int .i64 16, .bool false, .bool false] w (fun e w' => e = .returned (.tuple #[.slice none 0 0, .string ⟨([UInt8.ofNat (hd (u0 / 16777216)), UInt8.ofNat (hd (u0 / 1048576)), UInt8.ofNat (hd (u0 / 65536)), UInt8.ofNat (hd (u0 / 4096)), UInt8.ofNat (hd (u0 / 256)), UInt8.ofNat (hd (u0 / 16)), UInt8.ofNat (hd u0)] : List UInt8).toArray⟩]) ∧ Below w.heap.size w w') := by
  obtain ⟨u1, hu1⟩ : ∃ u1, u1 = u0 / 16 := ⟨_, rfl⟩
  obtain ⟨u2, hu2⟩ : ∃ u2, u2 = u1 / 16 := ⟨_, rfl⟩
  obtain ⟨u3, hu3⟩ : ∃ u3, u3 = u2 / 16 := ⟨_, rfl⟩
  obtain ⟨u4, hu4⟩ : ∃ u4, u4 = u3 / 16 := ⟨_, rfl⟩
  obtain ⟨u5, hu5⟩ : ∃ u5, u5 = u4 / 16 := ⟨_, rfl⟩
  obtain ⟨u6, hu6⟩ : ∃ u6, u6 = u5 / 16 := ⟨_, rfl⟩
  obtain ⟨d0, hd0⟩ : ∃ d0, d0 = u0 % 16 := ⟨_, rfl⟩
  obtain ⟨c0, hc0⟩ : ∃ c0, c0 = hd d0 := ⟨_, rfl⟩
  have a0 : bits .and .u64 (u0 : Int) 15 = (d0 : Int) := by rw [and15, hd0]
  have s0 : (u0 : Int) / 16 = (u1 : Int) := by omega
  have k0 : (16 : Int) ≤ (u0 : Int) := by omega
  have x0 := ix_digit (d := d0) (by omega)
  rw [← hc0] at x0
  have HC0 : Hid (UInt8.ofNat c0 = UInt8.ofNat (hd (u0)) ∧ c0 < 256) := by
    refine ⟨?_, by rw [hc0]; exact hd_lt _⟩
    rw [hc0, hd_mod (u0), hd_mod (d0), show d0 % 16 = (u0) % 16 by omega]
  obtain ⟨d1, hd1⟩ : ∃ d1, d1 = u1 % 16 := ⟨_, rfl⟩
  obtain ⟨c1, hc1⟩ : ∃ c1, c1 = hd d1 := ⟨_, rfl⟩
  have a1 : bits .and .u64 (u1 : Int) 15 = (d1 : Int) := by rw [and15, hd1]
  have s1 : (u1 : Int) / 16 = (u2 : Int) := by omega
  have k1 : (16 : Int) ≤ (u1 : Int) := by omega
  have x1 := ix_digit (d := d1) (by omega)
  rw [← hc1] at x1
  have HC1 : Hid (UInt8.ofNat c1 = UInt8.ofNat (hd (u0 / 16)) ∧ c1 < 256) := by
    refine ⟨?_, by rw [hc1]; exact hd_lt _⟩
    rw [hc1, hd_mod (u0 / 16), hd_mod (d1), show d1 % 16 = (u0 / 16) % 16 by omega]
  obtain ⟨d2, hd2⟩ : ∃ d2, d2 = u2 % 16 := ⟨_, rfl⟩
  obtain ⟨c2, hc2⟩ : ∃ c2, c2 = hd d2 := ⟨_, rfl⟩
  have a2 : bits .and .u64 (u2 : Int) 15 = (d2 : Int) := by rw [and15, hd2]
  have s2 : (u2 : Int) / 16 = (u3 : Int) := by omega
  have k2 : (16 : Int) ≤ (u2 : Int) := by omega
  have x2 := ix_digit (d := d2) (by omega)
  rw [← hc2] at x2
  have HC2 : Hid (UInt8.ofNat c2 = UInt8.ofNat (hd (u0 / 256)) ∧ c2 < 256) := by
    refine ⟨?_, by rw [hc2]; exact hd_lt _⟩
    rw [hc2, hd_mod (u0 / 256), hd_mod (d2), show d2 % 16 = (u0 / 256) % 16 by omega]
  obtain ⟨d3, hd3⟩ : ∃ d3, d3 = u3 % 16 := ⟨_, rfl⟩
  obtain ⟨c3, hc3⟩ : ∃ c3, c3 = hd d3 := ⟨_, rfl⟩
  have a3 : bits .and .u64 (u3 : Int) 15 = (d3 : Int) := by rw [and15, hd3]
  have s3 : (u3 : Int) / 16 = (u4 : Int) := by omega
  have k3 : (16 : Int) ≤ (u3 : Int) := by omega
  have x3 := ix_digit (d := d3) (by omega)
  rw [← hc3] at x3
  have HC3 : Hid (UInt8.ofNat c3 = UInt8.ofNat (hd (u0 / 4096)) ∧ c3 < 256) := by
    refine ⟨?_, by rw [hc3]; exact hd_lt _⟩
    rw [hc3, hd_mod (u0 / 4096), hd_mod (d3), show d3 % 16 = (u0 / 4096) % 16 by omega]
  obtain ⟨d4, hd4⟩ : ∃ d4, d4 = u4 % 16 := ⟨_, rfl⟩
  obtain ⟨c4, hc4⟩ : ∃ c4, c4 = hd d4 := ⟨_, rfl⟩
  have a4 : bits .and .u64 (u4 : Int) 15 = (d4 : Int) := by rw [and15, hd4]
  have s4 : (u4 : Int) / 16 = (u5 : Int) := by omega
  have k4 : (16 : Int) ≤ (u4 : Int) := by omega
  have x4 := ix_digit (d := d4) (by omega)
  rw [← hc4] at x4
  have HC4 : Hid (UInt8.ofNat c4 = UInt8.ofNat (hd (u0 / 65536)) ∧ c4 < 256) := by
    refine ⟨?_, by rw [hc4]; exact hd_lt _⟩
    rw [hc4, hd_mod (u0 / 65536), hd_mod (d4), show d4 % 16 = (u0 / 65536) % 16 by omega]
  obtain ⟨d5, hd5⟩ : ∃ d5, d5 = u5 % 16 := ⟨_, rfl⟩
  obtain ⟨c5, hc5⟩ : ∃ c5, c5 = hd d5 := ⟨_, rfl⟩
  have a5 : bits .and .u64 (u5 : Int) 15 = (d5 : Int) := by rw [and15, hd5]
  have s5 : (u5 : Int) / 16 = (u6 : Int) := by omega
  have k5 : (16 : Int) ≤ (u5 : Int) := by omega
  have x5 := ix_digit (d := d5) (by omega)
  rw [← hc5] at x5
  have HC5 : Hid (UInt8.ofNat c5 = UInt8.ofNat (hd (u0 / 1048576)) ∧ c5 < 256) := by
    refine ⟨?_, by rw [hc5]; exact hd_lt _⟩
    rw [hc5, hd_mod (u0 / 1048576), hd_mod (d5), show d5 % 16 = (u0 / 1048576) % 16 by omega]
  obtain ⟨c6, hc6⟩ : ∃ c6, c6 = hd u6 := ⟨_, rfl⟩
  have k6 : ¬ (16 : Int) ≤ (u6 : Int) := by omega
  have x6 := ix_digit (d := u6) (by omega)
  rw [← hc6] at x6
  have HC6 : Hid (UInt8.ofNat c6 = UInt8.ofNat (hd (u0 / 16777216)) ∧ c6 < 256) := by
    refine ⟨?_, by rw [hc6]; exact hd_lt _⟩
    rw [hc6, hd_mod (u0 / 16777216), hd_mod (u6), show u6 % 16 = (u0 / 16777216) % 16 by omega]
  clear hu1 hu2 hu3 hu4 hu5 hu6 hd0 hd1 hd2 hd3 hd4 hd5 hc0 hc1 hc2 hc3 hc4 hc5 hc6 h1 h2
  go_enter Tryd.func101, Tryd.ntmps101
  go_wp2_with (first | (go_at_call 110; refine (c_isPow _).mono ?_; rintro e w' ⟨rfl, rfl⟩) | (go_at_call 111; refine (c_TZ _ (hT.below (B := w.heap.size) (by (repeat (first | (with_reducible refine Below.drewN ?_) | (with_reducible refine Below.drew ?_) | ((with_reducible refine Below.alloc ?_ ?_ _); rotate_left; (first | omega | (simp <;> omega))) | ((with_reducible refine Below.setCell ?_ ?_ _); rotate_left; (first | omega | (simp <;> omega))) | (with_reducible exact Below.refl _ _) | (with_reducible assumption)))) (Nat.le_refl _)).c).mono ?_; rintro e w' ⟨rfl, rfl⟩))
  refine wp_loop_rounds 7 ?_
  rw [rounds_succ]
  go_wp2
  rw [rounds_succ]
  go_wp2
  rw [rounds_succ]
  go_wp2
  rw [rounds_succ]
  go_wp2
  rw [rounds_succ]
  go_wp2
  rw [rounds_succ]
  go_wp2
  rw [rounds_succ]
  go_upto_region 28 with fail
  refine wp_name ?_
  intro W hW
  have kb : W.heap[w.heap.size]? = some (.cells (((((((Tryd.zeroCells158.setIfInBounds 64 (.int .u8 (c0 : Int))).setIfInBounds 63 (.int .u8 (c1 : Int))).setIfInBounds 62 (.int .u8 (c2 : Int))).setIfInBounds 61 (.int .u8 (c3 : Int))).setIfInBounds 60 (.int .u8 (c4 : Int))).setIfInBounds 59 (.int .u8 (c5 : Int))).setIfInBounds 58 (.int .u8 (c6 : Int))) 158) := by rw [hW]; exact (MapKept.heap_alloc w _).1
  have bW : Below w.heap.size w W := by rw [hW]; (repeat (first | (with_reducible refine Below.drewN ?_) | (with_reducible refine Below.drew ?_) | ((with_reducible refine Below.alloc ?_ ?_ _); rotate_left; (first | omega | (simp <;> omega))) | ((with_reducible refine Below.setCell ?_ ?_ _); rotate_left; (first | omega | (simp <;> omega))) | (with_reducible exact Below.refl _ _) | (with_reducible assumption)))
  clear hW
  have b0 : W.cell? ⟨w.heap.size, 64, none⟩ = some (.int .u8 ((UInt8.ofNat c0).toNat : Int)) := by
    rw [u8_of HC0.out.2]
    exact cell_of kb 64 (by simp)
  have b1 : W.cell? ⟨w.heap.size, 63, none⟩ = some (.int .u8 ((UInt8.ofNat c1).toNat : Int)) := by
    rw [u8_of HC1.out.2]
    exact cell_of kb 63 (by simp)
  have b2 : W.cell? ⟨w.heap.size, 62, none⟩ = some (.int .u8 ((UInt8.ofNat c2).toNat : Int)) := by
    rw [u8_of HC2.out.2]
    exact cell_of kb 62 (by simp)
  have b3 : W.cell? ⟨w.heap.size, 61, none⟩ = some (.int .u8 ((UInt8.ofNat c3).toNat : Int)) := by
    rw [u8_of HC3.out.2]
    exact cell_of kb 61 (by simp)
  have b4 : W.cell? ⟨w.heap.size, 60, none⟩ = some (.int .u8 ((UInt8.ofNat c4).toNat : Int)) := by
    rw [u8_of HC4.out.2]
    exact cell_of kb 60 (by simp)
  have b5 : W.cell? ⟨w.heap.size, 59, none⟩ = some (.int .u8 ((UInt8.ofNat c5).toNat : Int)) := by
    rw [u8_of HC5.out.2]
    exact cell_of kb 59 (by simp)
  have b6 : W.cell? ⟨w.heap.size, 58, none⟩ = some (.int .u8 ((UInt8.ofNat c6).toNat : Int)) := by
    rw [u8_of HC6.out.2]
    exact cell_of kb 58 (by simp)
  have hcv : (convert 125 9 (.slice (some ⟨w.heap.size, 58, none⟩) 7 7)).run Tryd.prog W = .ok (.string ⟨([UInt8.ofNat c6, UInt8.ofNat c5, UInt8.ofNat c4, UInt8.ofNat c3, UInt8.ofNat c2, UInt8.ofNat c1, UInt8.ofNat c0] : List UInt8).toArray⟩) W :=
    run_convert_bytes_back (P := Tryd.prog) W 125 9 5 ⟨w.heap.size, 58, none⟩ 7 [UInt8.ofNat c6, UInt8.ofNat c5, UInt8.ofNat c4, UInt8.ofNat c3, UInt8.ofNat c2, UInt8.ofNat c1, UInt8.ofNat c0] Tryd.underlying125 Tryd.underlying5 Tryd.underlying9 (fun j hj => by
      have hj2 : j = 0 ∨ j = 1 ∨ j = 2 ∨ j = 3 ∨ j = 4 ∨ j = 5 ∨ j = 6 := by simp at hj; omega
      rcases hj2 with rfl | rfl | rfl | rfl | rfl | rfl | rfl
      · exact b6
      · exact b5
      · exact b4
      · exact b3
      · exact b2
      · exact b1
      · exact b0)
  clear b0 b1 b2 b3 b4 b5 b6 kb
  rw [HC0.out.1, HC1.out.1, HC2.out.1, HC3.out.1, HC4.out.1, HC5.out.1, HC6.out.1] at hcv
  obtain ⟨RR, hRR⟩ : ∃ RR, RR = ([UInt8.ofNat (hd (u0 / 16777216)), UInt8.ofNat (hd (u0 / 1048576)), UInt8.ofNat (hd (u0 / 65536)), UInt8.ofNat (hd (u0 / 4096)), UInt8.ofNat (hd (u0 / 256)), UInt8.ofNat (hd (u0 / 16)), UInt8.ofNat (hd u0)] : List UInt8).toArray := ⟨_, rfl⟩
  rw [← hRR] at hcv
  have HR := Lib.hid hRR
  clear hRR
  go_wp2
  go_ret2
  exact ⟨by rw [← HR.out]; rfl, by (repeat (first | (with_reducible refine Below.drewN ?_) | (with_reducible refine Below.drew ?_) | ((with_reducible refine Below.alloc ?_ ?_ _); rotate_left; (first | omega | (simp <;> omega))) | ((with_reducible refine Below.setCell ?_ ?_ _); rotate_left; (first | omega | (simp <;> omega))) | (with_reducible exact Below.refl _ _) | (with_reducible assumption)))⟩
set_option maxRecDepth 100000 in
set_option maxHeartbeats 3200000 in
theorem c_fb8 (u0 : Nat) (h1 : 268435456 ≤ u0) (h2 : u0 < 4294967296) (w : World) (hT : Tb w) : Calls Tryd.prog 101 #[.slice none 0 0, .int .u64 (u0 : Int), .int .i64 16, .bool false, .bool false] w (fun e w' => e = .returned (.tuple #[.slice none 0 0, .string ⟨([UInt8.ofNat (hd (u0 / 268435456)), UInt8.ofNat (hd (u0 / 16777216)), UInt8.ofNat (hd (u0 / 1048576)), UInt8.ofNat (hd (u0 / 65536)), UInt8.ofNat (hd (u0 / 4096)), UInt8.ofNat (hd (u0 / 256)), UInt8.ofNat (hd (u0 / 16)), UInt8.ofNat (hd u0)] : List UInt8).toArray⟩]) ∧ Below w.heap.size w w') := by
  obtain ⟨u1, hu1⟩ : ∃ u1, u1 = u0 / 16 := ⟨_, rfl⟩
  obtain ⟨u2, hu2⟩ : ∃ u2, u2 = u1 / 16 := ⟨_, rfl⟩
  obtain ⟨u3, hu3⟩ : ∃ u3, u3 = u2 / 16 := ⟨_, rfl⟩
  obtain ⟨u4, hu4⟩ : ∃ u4, u4 = u3 / 16 := ⟨_, rfl⟩
  obtain ⟨u5, hu5⟩ : ∃ u5, u5 = u4 / 16 := ⟨_, rfl⟩
  obtain ⟨u6, hu6⟩ : ∃ u6, u6 = u5 / 16 := ⟨_, rfl⟩
  obtain ⟨u7, hu7⟩ : ∃ u7, u7 = u6 / 16 := ⟨_, rfl⟩
  obtain ⟨d0, hd0⟩ : ∃ d0, d0 = u0 % 16 := ⟨_, rfl⟩
  obtain ⟨c0, hc0⟩ : ∃ c0, c0 = hd d0 := ⟨_, rfl⟩
  have a0 : bits .and .u64 (u0 : Int) 15 = (d0 : Int) := by rw [and15, hd0]
  have s0 : (u0 : Int) / 16 = (u1 : Int) := by omega
  have k0 : (16 : Int) ≤ (u0 : Int) := by omega
  have x0 := ix_digit (d := d0) (by omega)
  rw [← hc0] at x0
  have HC0 : Hid (UInt8.ofNat c0 = UInt8.ofNat (hd (u0)) ∧ c0 < 256) := by
    refine ⟨?_, by rw [hc0]; exact hd_lt _⟩
    rw [hc0, hd_mod (u0), hd_mod (d0), show d0 % 16 = (u0) % 16 by omega]
  obtain ⟨d1, hd1⟩ : ∃ d1, d1 = u1 % 16 := ⟨_, rfl⟩
  obtain ⟨c1, hc1⟩ : ∃ c1, c1 = hd d1 := ⟨_, rfl⟩
  have a1 : bits .and .u64 (u1 : Int) 15 = (d1 : Int) := by rw [and15, hd1]
  have s1 : (u1 : Int) / 16 = (u2 : Int) := by omega
  have k1 : (16 : Int) ≤ (u1 : Int) := by omega
  have x1 := ix_digit (d := d1) (by omega)
  rw [← hc1] at x1
  have HC1 : Hid (UInt8.ofNat c1 = UInt8.ofNat (hd (u0 / 16)) ∧ c1 < 256) := by
    refine ⟨?_, by rw [hc1]; exact hd_lt _⟩
    rw [hc1, hd_mod (u0 / 16), hd_mod (d1), show d1 % 16 = (u0 / 16) % 16 by omega]
  obtain ⟨d2, hd2⟩ : ∃ d2, d2 = u2 % 16 := ⟨_, rfl⟩
  obtain ⟨c2, hc2⟩ : ∃ c2, c2 = hd d2 := ⟨_, rfl⟩
  have a2 : bits .and .u64 (u2 : Int) 15 = (d2 : Int) := by rw [and15, hd2]
  have s2 : (u2 : Int) / 16 = (u3 : Int) := by omega
  have k2 : (16 : Int) ≤ (u2 : Int) := by omega
  have x2 := ix_digit (d := d2) (by omega)
  rw [← hc2] at x2
  have HC2 : Hid (UInt8.ofNat c2 = UInt8.ofNat (hd (u0 / 256)) ∧ c2 < 256) := by
    refine ⟨?_, by rw [hc2]; exact hd_lt _⟩
    rw [hc2, hd_mod (u0 / 256), hd_mod (d2), show d2 % 16 = (u0 / 256) % 16 by omega]
  obtain ⟨d3, hd3⟩ : ∃ d3, d3 = u3 % 16 := ⟨_, rfl⟩
  obtain ⟨c3, hc3⟩ : ∃ c3, c3 = hd d3 := ⟨_, rfl⟩
  have a3 : bits .and .u64 (u3 : Int) 15 = (d3 : Int) := by rw [and15, hd3]
  have s3 : (u3 : Int) / 16 = (u4 : Int) := by omega
  have k3 : (16 : Int) ≤ (u3 : Int) := by omega
  have x3 := ix_digit (d := d3) (by omega)
  rw [← hc3] at x3
  have HC3 : Hid (UInt8.ofNat c3 = UInt8.ofNat (hd (u0 / 4096)) ∧ c3 < 256) := by
    refine ⟨?_, by rw [hc3]; exact hd_lt _⟩
    rw [hc3, hd_mod (u0 / 4096), hd_mod (d3), show d3 % 16 = (u0 / 4096) % 16 by omega]
  obtain ⟨d4, hd4⟩ : ∃ d4, d4 = u4 % 16 := ⟨_, rfl⟩
  obtain ⟨c4, hc4⟩ : ∃ c4, c4 = hd d4 := ⟨_, rfl⟩
  have a4 : bits .and .u64 (u4 : Int) 15 = (d4 : Int) := by rw [and15, hd4]
  have s4 : (u4 : Int) / 16 = (u5 : Int) := by omega
  have k4 : (16 : Int) ≤ (u4 : Int) := by omega
  have x4 := ix_digit (d := d4) (by omega)
  rw [← hc4] at x4
  have HC4 : Hid (UInt8.ofNat c4 = UInt8.ofNat (hd (u0 / 65536)) ∧ c4 < 256) := by
    refine ⟨?_, by rw [hc4]; exact hd_lt _⟩
    rw [hc4, hd_mod (u0 / 65536), hd_mod (d4), show d4 % 16 = (u0 / 65536) % 16 by omega]
  obtain ⟨d5, hd5⟩ : ∃ d5, d5 = u5 % 16 := ⟨_, rfl⟩
  obtain ⟨c5, hc5⟩ : ∃ c5, c5 = hd d5 := ⟨_, rfl⟩
  have a5 : bits .and .u64 (u5 : Int) 15 = (d5 : Int) := by rw [and15, hd5]
  have s5 : (u5 : Int) / 16 = (u6 : Int) := by omega
  have k5 : (16 : Int) ≤ (u5 : Int) := by omega
  have x5 := ix_digit (d := d5) (by omega)
  rw [← hc5] at x5
  have HC5 : Hid (UInt8.ofNat c5 = UInt8.ofNat (hd (u0 / 1048576)) ∧ c5 < 256) := by
    refine ⟨?_, by rw [hc5]; exact hd_lt _⟩
    rw [hc5, hd_mod (u0 / 1048576), hd_mod (d5), show d5 % 16 = (u0 / 1048576) % 16 by omega]
  obtain ⟨d6, hd6⟩ : ∃ d6, d6 = u6 % 16 := ⟨_, rfl⟩
  obtain ⟨c6, hc6⟩ : ∃ c6, c6 = hd d6 := ⟨_, rfl⟩
  have a6 : bits .and .u64 (u6 : Int) 15 = (d6 : Int) := by rw [and15, hd6]
  have s6 : (u6 : Int) / 16 = (u7 : Int) := by omega
  have k6 : (16 : Int) ≤ (u6 : Int) := by omega
  have x6 := ix_digit (d := d6) (by omega)
  rw [← hc6] at x6
  have HC6 : Hid (UInt8.ofNat c6 = UInt8.ofNat (hd (u0 / 16777216)) ∧ c6 < 256) := by
    refine ⟨?_, by rw [hc6]; exact hd_lt _⟩
    rw [hc6, hd_mod (u0 / 16777216), hd_mod (d6), show d6 % 16 = (u0 / 16777216) % 16 by omega]
  obtain ⟨c7, hc7⟩ : ∃ c7, c7 = hd u7 := ⟨_, rfl⟩
  have k7 : ¬ (16 : Int) ≤ (u7 : Int) := by omega
  have x7 := ix_digit (d := u7) (by omega)
  rw [← hc7] at x7
  have HC7 : Hid (UInt8.ofNat c7 = UInt8.ofNat (hd (u0 / 268435456)) ∧ c7 < 256) := by
    refine ⟨?_, by rw [hc7]; exact hd_lt _⟩
    rw [hc7, hd_mod (u0 / 268435456), hd_mod (u7), show u7 % 16 = (u0 / 268435456) % 16 by omega]
  clear hu1 hu2 hu3 hu4 hu5 hu6 hu7 hd0 hd1 hd2 hd3 hd4 hd5 hd6 hc0 hc1 hc2 hc3 hc4 hc5 hc6 hc7 h1 h2
  go_enter Tryd.func101, Tryd.ntmps101
  go_wp2_with (first | (go_at_call 110; refine (c_isPow _).mono ?_; rintro e w' ⟨rfl, rfl⟩) | (go_at_call 111; refine (c_TZ _ (hT.below (B := w.heap.size) (by (repeat (first | (with_reducible refine Below.drewN ?_) | (with_reducible refine Below.drew ?_) | ((with_reducible refine Below.alloc ?_ ?_ _); rotate_left; (first | omega | (simp <;> omega))) | ((with_reducible refine Below.setCell ?_ ?_ _); rotate_left; (first | omega | (simp <;> omega))) | (with_reducible exact Below.refl _ _) | (with_reducible assumption)))) (Nat.le_refl _)).c).mono ?_; rintro e w' ⟨rfl, rfl⟩))
  refine wp_loop_rounds 8 ?_
  rw [rounds_succ]
  go_wp2
  rw [rounds_succ]
  go_wp2
  rw [rounds_succ]
  go_wp2
  rw [rounds_succ]
  go_wp2
  rw [rounds_succ]
  go_wp2
  rw [rounds_succ]
  go_wp2
  rw [rounds_succ]
  go_wp2
  rw [rounds_succ]
  go_upto_region 28 with fail
  refine wp_name ?_
  intro W hW
  have kb : W.heap[w.heap.size]? = some (.cells ((((((((Tryd.zeroCells158.setIfInBounds 64 (.int .u8 (c0 : Int))).setIfInBounds 63 (.int .u8 (c1 : Int))).setIfInBounds 62 (.int .u8 (c2 : Int))).setIfInBounds 61 (.int .u8 (c3 : Int))).setIfInBounds 60 (.int .u8 (c4 : Int))).setIfInBounds 59 (.int .u8 (c5 : Int))).setIfInBounds 58 (.int .u8 (c6 : Int))).setIfInBounds 57 (.int .u8 (c7 : Int))) 158) := by rw [hW]; exact (MapKept.heap_alloc w _).1
  have bW : Below w.heap.size w W := by rw [hW]; (repeat (first | (with_reducible refine Below.drewN ?_) | (with_reducible refine Below.drew ?_) | ((with_reducible refine Below.alloc ?_ ?_ _); rotate_left; (first | omega | (simp <;> omega))) | ((with_reducible refine Below.setCell ?_ ?_ _); rotate_left; (first | omega | (simp <;> omega))) | (with_reducible exact Below.refl _ _) | (with_reducible assumption)))
  clear hW
  have b0 : W.cell? ⟨w.heap.size, 64, none⟩ = some (.int .u8 ((UInt8.ofNat c0).toNat : Int)) := by
    rw [u8_of HC0.out.2]
    exact cell_of kb 64 (by simp)
  have b1 : W.cell? ⟨w.heap.size, 63, none⟩ = some (.int .u8 ((UInt8.ofNat c1).toNat : Int)) := by
    rw [u8_of HC1.out.2]
    exact cell_of kb 63 (by simp)
  have b2 : W.cell? ⟨w.heap.size, 62, none⟩ = some (.int .u8 ((UInt8.ofNat c2).toNat : Int)) := by
    rw [u8_of HC2.out.2]
    exact cell_of kb 62 (by simp)
  have b3 : W.cell? ⟨w.heap.size, 61, none⟩ = some (.int .u8 ((UInt8.ofNat c3).toNat : Int)) := by
    rw [u8_of HC3.out.2]
    exact cell_of kb 61 (by simp)
  have b4 : W.cell? ⟨w.heap.size, 60, none⟩ = some (.int .u8 ((UInt8.ofNat c4).toNat : Int)) := by
    rw [u8_of HC4.out.2]
    exact cell_of kb 60 (by simp)
  have b5 : W.cell? ⟨w.heap.size, 59, none⟩ = some (.int .u8 ((UInt8.ofNat c5).toNat : Int)) := by
    rw [u8_of HC5.out.2]
    exact cell_of kb 59 (by simp)
  have b6 : W.cell? ⟨w.heap.size, 58, none⟩ = some (.int .u8 ((UInt8.ofNat c6).toNat : Int)) := by
    rw [u8_of HC6.out.2]
    exact cell_of kb 58 (by simp)
  have b7 : W.cell? ⟨w.heap.size, 57, none⟩ = some (.int .u8 ((UInt8.ofNat c7).toNat : Int)) := by
    rw [u8_of HC7.out.2]
    exact cell_of kb 57 (by simp)
  have hcv : (convert 125 9 (.slice (some ⟨w.heap.size, 57, none⟩) 8 8)).run Tryd.prog W = .ok (.string ⟨([UInt8.ofNat c7, UInt8.ofNat c6, UInt8.ofNat c5, UInt8.ofNat c4, UInt8.ofNat c3, UInt8.ofNat c2, UInt8.ofNat c1, UInt8.ofNat c0] : List UInt8).toArray⟩) W :=
    run_convert_bytes_back (P := Tryd.prog) W 125 9 5 ⟨w.heap.size, 57, none⟩ 8 [UInt8.ofNat c7, UInt8.ofNat c6, UInt8.ofNat c5, UInt8.ofNat c4, UInt8.ofNat c3, UInt8.ofNat c2, UInt8.ofNat c1, UInt8.ofNat c0] Tryd.underlying125 Tryd.underlying5 Tryd.underlying9 (fun j hj => by
      have hj2 : j = 0 ∨ j = 1 ∨ j = 2 ∨ j = 3 ∨ j = 4 ∨ j = 5 ∨ j = 6 ∨ j = 7 := by simp at hj; omega
      rcases hj2 with rfl | rfl | rfl | rfl | rfl | rfl | rfl | rfl
      · exact b7
      · exact b6
      · exact b5
      · exact b4
      · exact b3
      · exact b2
      · exact b1
      · exact b0)
  clear b0 b1 b2 b3 b4 b5 b6 b7 kb
  rw [HC0.out.1, HC1.out.1, HC2.out.1, HC3.out.1, HC4.out.1, HC5.out.1, HC6.out.1, HC7.out.1] at hcv
  obtain ⟨RR, hRR⟩ : ∃ RR, RR = ([UInt8.ofNat (hd (u0 / 268435456)), UInt8.ofNat (hd (u0 / 16777216)), UInt8.ofNat (hd (u0 / 1048576)), UInt8.ofNat (hd (u0 / 65536)), UInt8.ofNat (hd (u0 / 4096)), UInt8.ofNat (hd (u0 / 256)), UInt8.ofNat (hd (u0 / 16)), UInt8.ofNat (hd u0)] : List UInt8).toArray := ⟨_, rfl⟩
  rw [← hRR] at hcv
  have HR := Lib.hid hRR
  clear hRR
  go_wp2
  go_ret2
  exact ⟨by rw [← HR.out]; rfl, by (repeat (first | (with_reducible refine Below.drewN ?_) | (with_reducible refine Below.drew ?_) | ((with_reducible refine Below.alloc ?_ ?_ _); rotate_left; (first | omega | (simp <;> omega))) | ((with_reducible refine Below.setCell ?_ ?_ _); rotate_left; (first | omega | (simp <;> omega))) | (with_reducible exact Below.refl _ _) | (with_reducible assumption)))⟩
end Go.Proofs.YtbdanadmabemdaaDoor
