
/-
The text of the bits of a sample: the reference.
-/
import Derived.Test.YtbdanadmabemdaaDoorHe
namespace Go.Proofs.YtbdanadmabemdaaDoor
open Go Go.RowKit Fl
theorem c_l01Bits (a : Nat) (w : World) : Calls Tryd.prog 95 #[.float .f32 a] w (RetI .u32 (can .f32 a : Nat) w) := by
  cases h : isNaN .f32 a
  · have hc : can .f32 a = a := by unfold can; rw [h]; rfl
    rw [hc]
    go_enter Tryd.func95, Tryd.ntmps95
    go_wp2_with (go_at_call 94; refine (c_l01NaN _ _).mono ?_; rintro e w' ⟨rfl, n1, rfl⟩)
    go_ret
    exact ⟨rfl, by first | exact same0 _ | exact same1 _ _⟩
  · have hc : can .f32 a = 2143289344 := by unfold can; rw [h]; rfl
    rw [hc]
    go_enter Tryd.func95, Tryd.ntmps95
    go_wp2_with (go_at_call 94; refine (c_l01NaN _ _).mono ?_; rintro e w' ⟨rfl, n1, rfl⟩)
    go_ret
    exact ⟨rfl, by first | exact same0 _ | exact same1 _ _⟩
set_option maxRecDepth 100000 in
theorem ix_hex {d : Nat} (h : d < 16) : ∀ W, (Instr.index 9 (.string ⟨#[48, 49, 50, 51, 52, 53, 54, 55, 56, 57, 97, 98, 99, 100, 101, 102]⟩) (.int .u32 (d : Int))).run Tryd.prog W = .ok (.int .u8 (hd d : Int)) W := by
  intro W
  have hc : d = 0 ∨ d = 1 ∨ d = 2 ∨ d = 3 ∨ d = 4 ∨ d = 5 ∨ d = 6 ∨ d = 7 ∨ d = 8 ∨ d = 9 ∨ d = 10 ∨ d = 11 ∨ d = 12 ∨ d = 13 ∨ d = 14 ∨ d = 15 := by omega
  rcases hc with rfl | rfl | rfl | rfl | rfl | rfl | rfl | rfl | rfl | rfl | rfl | rfl | rfl | rfl | rfl | rfl <;> rfl
theorem u32_id (n : Int) (h1 : 0 ≤ n) (h2 : n < 4294967296) : IntKind.u32.wrap n = n := by rw [IntKind.wrap_u32']; omega
theorem infoU8 : (Tryd.prog.info? 5).map (fun i => (i.zero, i.size, i.bytes)) = some (some (.int .u8 0), 1, 1) := by kernel_rfl
theorem mk_u8 (W : World) : (Instr.makeSlice 125 (.int .i64 8) (.int .i64 8)).run Tryd.prog W = .ok (.slice (some ⟨W.heap.size, 0, none⟩) 8 8) (W.alloc (.cells #[.int .u8 0, .int .u8 0, .int .u8 0, .int .u8 0, .int .u8 0, .int .u8 0, .int .u8 0, .int .u8 0] 5)) := by
  obtain ⟨i, hi, hz, hsz, hby⟩ := info_parts infoU8
  have := run_make (P := Tryd.prog) W 125 5 i (.int .u8 0) Tryd.underlying125 hi hz .i64 .i64 8 8 (by omega) (by omega) (by rw [hby]; omega) (by omega)
  rw [this, hsz]
  rw [show madeCells (Value.int IntKind.u8 0).cells (Int.toNat 8 * 1) = #[.int .u8 0, .int .u8 0, .int .u8 0, .int .u8 0, .int .u8 0, .int .u8 0, .int .u8 0, .int .u8 0] from by kernel_rfl]
  rfl
set_option maxRecDepth 100000 in
set_option maxHeartbeats 3200000 in
theorem c_l01Hex (a : Nat) (w : World) (h : can .f32 a < 4294967296) : Calls Tryd.prog 77 #[.float .f32 a] w (RetS (hexL (can .f32 a)) w) := by
  have B := Lib.hid (c_l01Bits a w)
  generalize can .f32 a = u0 at *
  obtain ⟨u1, hu1⟩ : ∃ u1, u1 = u0 / 16 := ⟨_, rfl⟩
  obtain ⟨d0, hd0⟩ : ∃ d0, d0 = u0 % 16 := ⟨_, rfl⟩
  obtain ⟨c0, hc0⟩ : ∃ c0, c0 = hd d0 := ⟨_, rfl⟩
  have a0 : (u0 : Int) % 16 = (d0 : Int) := by omega
  have s0 : (u0 : Int) / 16 = (u1 : Int) := by omega
  have wa0 := u32_id (d0 : Int) (by omega) (by omega)
  have ws0 := u32_id (u1 : Int) (by omega) (by omega)
  have x0 := ix_hex (d := d0) (by omega)
  rw [← hc0] at x0
  have HC0 : Hid (UInt8.ofNat c0 = UInt8.ofNat (hd (u0)) ∧ c0 < 256) := by
    refine ⟨?_, by rw [hc0]; exact hd_lt _⟩
    rw [hc0, hd_mod (u0), hd_mod d0, show d0 % 16 = (u0) % 16 by omega]
  obtain ⟨u2, hu2⟩ : ∃ u2, u2 = u1 / 16 := ⟨_, rfl⟩
  obtain ⟨d1, hd1⟩ : ∃ d1, d1 = u1 % 16 := ⟨_, rfl⟩
  obtain ⟨c1, hc1⟩ : ∃ c1, c1 = hd d1 := ⟨_, rfl⟩
  have a1 : (u1 : Int) % 16 = (d1 : Int) := by omega
  have s1 : (u1 : Int) / 16 = (u2 : Int) := by omega
  have wa1 := u32_id (d1 : Int) (by omega) (by omega)
  have ws1 := u32_id (u2 : Int) (by omega) (by omega)
  have x1 := ix_hex (d := d1) (by omega)
  rw [← hc1] at x1
  have HC1 : Hid (UInt8.ofNat c1 = UInt8.ofNat (hd (u0 / 16)) ∧ c1 < 256) := by
    refine ⟨?_, by rw [hc1]; exact hd_lt _⟩
    rw [hc1, hd_mod (u0 / 16), hd_mod d1, show d1 % 16 = (u0 / 16) % 16 by omega]
  obtain ⟨u3, hu3⟩ : ∃ u3, u3 = u2 / 16 := ⟨_, rfl⟩
  obtain ⟨d2, hd2⟩ : ∃ d2, d2 = u2 % 16 := ⟨_, rfl⟩
  obtain ⟨c2, hc2⟩ : ∃ c2, c2 = hd d2 := ⟨_, rfl⟩
  have a2 : (u2 : Int) % 16 = (d2 : Int) := by omega
  have s2 : (u2 : Int) / 16 = (u3 : Int) := by omega
  have wa2 := u32_id (d2 : Int) (by omega) (by omega)
  have ws2 := u32_id (u3 : Int) (by omega) (by omega)
  have x2 := ix_hex (d := d2) (by omega)
  rw [← hc2] at x2
  have HC2 : Hid (UInt8.ofNat c2 = UInt8.ofNat (hd (u0 / 256)) ∧ c2 < 256) := by
    refine ⟨?_, by rw [hc2]; exact hd_lt _⟩
    rw [hc2, hd_mod (u0 / 256), hd_mod d2, show d2 % 16 = (u0 / 256) % 16 by omega]
  obtain ⟨u4, hu4⟩ : ∃ u4, u4 = u3 / 16 := ⟨_, rfl⟩
  obtain ⟨d3, hd3⟩ : ∃ d3, d3 = u3 % 16 := ⟨_, rfl⟩
  obtain ⟨c3, hc3⟩ : ∃ c3, c3 = hd d3 := ⟨_, rfl⟩
  have a3 : (u3 : Int) % 16 = (d3 : Int) := by omega
  have s3 : (u3 : Int) / 16 = (u4 : Int) := by omega
  have wa3 := u32_id (d3 : Int) (by omega) (by omega)
  have ws3 := u32_id (u4 : Int) (by omega) (by omega)
  have x3 := ix_hex (d := d3) (by omega)
  rw [← hc3] at x3
  have HC3 : Hid (UInt8.ofNat c3 = UInt8.ofNat (hd (u0 / 4096)) ∧ c3 < 256) := by
    refine ⟨?_, by rw [hc3]; exact hd_lt _⟩
    rw [hc3, hd_mod (u0 / 4096), hd_mod d3, show d3 % 16 = (u0 / 4096) % 16 by omega]
  obtain ⟨u5, hu5⟩ : ∃ u5, u5 = u4 / 16 := ⟨_, rfl⟩
  obtain ⟨d4, hd4⟩ : ∃ d4, d4 = u4 % 16 := ⟨_, rfl⟩
  obtain ⟨c4, hc4⟩ : ∃ c4, c4 = hd d4 := ⟨_, rfl⟩
  have a4 : (u4 : Int) % 16 = (d4 : Int) := by omega
  have s4 : (u4 : Int) / 16 = (u5 : Int) := by omega
  have wa4 := u32_id (d4 : Int) (by omega) (by omega)
  have ws4 := u32_id (u5 : Int) (by omega) (by omega)
  have x4 := ix_hex (d := d4) (by omega)
  rw [← hc4] at x4
  have HC4 : Hid (UInt8.ofNat c4 = UInt8.ofNat (hd (u0 / 65536)) ∧ c4 < 256) := by
    refine ⟨?_, by rw [hc4]; exact hd_lt _⟩
    rw [hc4, hd_mod (u0 / 65536), hd_mod d4, show d4 % 16 = (u0 / 65536) % 16 by omega]
  obtain ⟨u6, hu6⟩ : ∃ u6, u6 = u5 / 16 := ⟨_, rfl⟩
  obtain ⟨d5, hd5⟩ : ∃ d5, d5 = u5 % 16 := ⟨_, rfl⟩
  obtain ⟨c5, hc5⟩ : ∃ c5, c5 = hd d5 := ⟨_, rfl⟩
  have a5 : (u5 : Int) % 16 = (d5 : Int) := by omega
  have s5 : (u5 : Int) / 16 = (u6 : Int) := by omega
  have wa5 := u32_id (d5 : Int) (by omega) (by omega)
  have ws5 := u32_id (u6 : Int) (by omega) (by omega)
  have x5 := ix_hex (d := d5) (by omega)
  rw [← hc5] at x5
  have HC5 : Hid (UInt8.ofNat c5 = UInt8.ofNat (hd (u0 / 1048576)) ∧ c5 < 256) := by
    refine ⟨?_, by rw [hc5]; exact hd_lt _⟩
    rw [hc5, hd_mod (u0 / 1048576), hd_mod d5, show d5 % 16 = (u0 / 1048576) % 16 by omega]
  obtain ⟨u7, hu7⟩ : ∃ u7, u7 = u6 / 16 := ⟨_, rfl⟩
  obtain ⟨d6, hd6⟩ : ∃ d6, d6 = u6 % 16 := ⟨_, rfl⟩
  obtain ⟨c6, hc6⟩ : ∃ c6, c6 = hd d6 := ⟨_, rfl⟩
  have a6 : (u6 : Int) % 16 = (d6 : Int) := by omega
  have s6 : (u6 : Int) / 16 = (u7 : Int) := by omega
  have wa6 := u32_id (d6 : Int) (by omega) (by omega)
  have ws6 := u32_id (u7 : Int) (by omega) (by omega)
  have x6 := ix_hex (d := d6) (by omega)
  rw [← hc6] at x6
  have HC6 : Hid (UInt8.ofNat c6 = UInt8.ofNat (hd (u0 / 16777216)) ∧ c6 < 256) := by
    refine ⟨?_, by rw [hc6]; exact hd_lt _⟩
    rw [hc6, hd_mod (u0 / 16777216), hd_mod d6, show d6 % 16 = (u0 / 16777216) % 16 by omega]
  obtain ⟨u8, hu8⟩ : ∃ u8, u8 = u7 / 16 := ⟨_, rfl⟩
  obtain ⟨d7, hd7⟩ : ∃ d7, d7 = u7 % 16 := ⟨_, rfl⟩
  obtain ⟨c7, hc7⟩ : ∃ c7, c7 = hd d7 := ⟨_, rfl⟩
  have a7 : (u7 : Int) % 16 = (d7 : Int) := by omega
  have s7 : (u7 : Int) / 16 = (u8 : Int) := by omega
  have wa7 := u32_id (d7 : Int) (by omega) (by omega)
  have ws7 := u32_id (u8 : Int) (by omega) (by omega)
  have x7 := ix_hex (d := d7) (by omega)
  rw [← hc7] at x7
  have HC7 : Hid (UInt8.ofNat c7 = UInt8.ofNat (hd (u0 / 268435456)) ∧ c7 < 256) := by
    refine ⟨?_, by rw [hc7]; exact hd_lt _⟩
    rw [hc7, hd_mod (u0 / 268435456), hd_mod d7, show d7 % 16 = (u0 / 268435456) % 16 by omega]
  have hmk := mk_u8
  clear h hu1 hd0 hc0 hu2 hd1 hc1 hu3 hd2 hc2 hu4 hd3 hc3 hu5 hd4 hc4 hu6 hd5 hc5 hu7 hd6 hc6 hu8 hd7 hc7
  go_enter Tryd.func77, Tryd.ntmps77
  go_wp2_with fail
  refine B.out.mono ?_
  rintro e w1 ⟨rfl, m1, hw1⟩
  have bW : Below w.heap.size w w1 := by rw [hw1]; (repeat (first | (with_reducible refine Below.drewN ?_) | (with_reducible refine Below.drew ?_) | ((with_reducible refine Below.alloc ?_ ?_ _); rotate_left; (first | omega | (simp <;> omega))) | ((with_reducible refine Below.setCell ?_ ?_ _); rotate_left; (first | omega | (simp <;> omega))) | (with_reducible exact Below.refl _ _) | (with_reducible assumption)))
  have bs1 := bW.size
  clear hw1
  go_wp2
  refine wp_loop_rounds 9 ?_
  rw [rounds_succ]
  go_wp2
  rw [rounds_succ]
  go_wp2
  rw [rounds_succ]
  go_wp2
  rw [rounds_succ]
  go_wp2
  rw [rounds_succ]
  go_wp2
  rw [rounds_succ]
  go_wp2
  rw [rounds_succ]
  go_wp2
  rw [rounds_succ]
  go_wp2
  rw [rounds_succ]
  go_upto_region 8 with fail
  refine wp_name ?_
  intro W hW
  have kb : W.heap[w1.heap.size]? = some (.cells #[.int .u8 (c7 : Int), .int .u8 (c6 : Int), .int .u8 (c5 : Int), .int .u8 (c4 : Int), .int .u8 (c3 : Int), .int .u8 (c2 : Int), .int .u8 (c1 : Int), .int .u8 (c0 : Int)] 5) := by rw [hW]; exact (MapKept.heap_alloc w1 _).1
  have bW2 : Below w.heap.size w W := by rw [hW]; (repeat (first | (with_reducible refine Below.drewN ?_) | (with_reducible refine Below.drew ?_) | ((with_reducible refine Below.alloc ?_ ?_ _); rotate_left; (first | omega | (simp <;> omega))) | ((with_reducible refine Below.setCell ?_ ?_ _); rotate_left; (first | omega | (simp <;> omega))) | (with_reducible exact Below.refl _ _) | (with_reducible assumption)))
  clear hW
  have b0 : W.cell? ⟨w1.heap.size, 7, none⟩ = some (.int .u8 ((UInt8.ofNat c0).toNat : Int)) := by
    rw [u8_of HC0.out.2]
    exact cell_of kb 7 rfl
  have b1 : W.cell? ⟨w1.heap.size, 6, none⟩ = some (.int .u8 ((UInt8.ofNat c1).toNat : Int)) := by
    rw [u8_of HC1.out.2]
    exact cell_of kb 6 rfl
  have b2 : W.cell? ⟨w1.heap.size, 5, none⟩ = some (.int .u8 ((UInt8.ofNat c2).toNat : Int)) := by
    rw [u8_of HC2.out.2]
    exact cell_of kb 5 rfl
  have b3 : W.cell? ⟨w1.heap.size, 4, none⟩ = some (.int .u8 ((UInt8.ofNat c3).toNat : Int)) := by
    rw [u8_of HC3.out.2]
    exact cell_of kb 4 rfl
  have b4 : W.cell? ⟨w1.heap.size, 3, none⟩ = some (.int .u8 ((UInt8.ofNat c4).toNat : Int)) := by
    rw [u8_of HC4.out.2]
    exact cell_of kb 3 rfl
  have b5 : W.cell? ⟨w1.heap.size, 2, none⟩ = some (.int .u8 ((UInt8.ofNat c5).toNat : Int)) := by
    rw [u8_of HC5.out.2]
    exact cell_of kb 2 rfl
  have b6 : W.cell? ⟨w1.heap.size, 1, none⟩ = some (.int .u8 ((UInt8.ofNat c6).toNat : Int)) := by
    rw [u8_of HC6.out.2]
    exact cell_of kb 1 rfl
  have b7 : W.cell? ⟨w1.heap.size, 0, none⟩ = some (.int .u8 ((UInt8.ofNat c7).toNat : Int)) := by
    rw [u8_of HC7.out.2]
    exact cell_of kb 0 rfl
  have hcv : (convert 125 9 (.slice (some ⟨w1.heap.size, 0, none⟩) 8 8)).run Tryd.prog W = .ok (.string ⟨([UInt8.ofNat c7, UInt8.ofNat c6, UInt8.ofNat c5, UInt8.ofNat c4, UInt8.ofNat c3, UInt8.ofNat c2, UInt8.ofNat c1, UInt8.ofNat c0] : List UInt8).toArray⟩) W :=
    run_convert_bytes_back (P := Tryd.prog) W 125 9 5 ⟨w1.heap.size, 0, none⟩ 8 [UInt8.ofNat c7, UInt8.ofNat c6, UInt8.ofNat c5, UInt8.ofNat c4, UInt8.ofNat c3, UInt8.ofNat c2, UInt8.ofNat c1, UInt8.ofNat c0] Tryd.underlying125 Tryd.underlying5 Tryd.underlying9 (fun j hj => by
      have hj2 : j = 0 ∨ j = 1 ∨ j = 2 ∨ j = 3 ∨ j = 4 ∨ j = 5 ∨ j = 6 ∨ j = 7 := by simp at hj; omega
      rcases hj2 with rfl | rfl | rfl | rfl | rfl | rfl | rfl | rfl
      · exact b7
      · exact b6
      · exact b5
      · exact b4
      · exact b3
      · exact b2
      · exact b1
      · exact b0)
  clear b0 b1 b2 b3 b4 b5 b6 b7 kb
  rw [HC0.out.1, HC1.out.1, HC2.out.1, HC3.out.1, HC4.out.1, HC5.out.1, HC6.out.1, HC7.out.1] at hcv
  have hcv2 : (convert 125 9 (.slice (some ⟨w1.heap.size, 0, none⟩) 8 8)).run Tryd.prog W = .ok (.string ⟨(hexL u0).toArray⟩) W := hcv
  clear hcv
  generalize hexL u0 = LL at *
  go_wp2
  go_ret
  exact ⟨rfl, bW2⟩
end Go.Proofs.YtbdanadmabemdaaDoor
