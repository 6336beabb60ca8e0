
/-
Is a room silent: the parts.
-/
import Derived.Test.YtfhegjjgfaeinaaYj
import Derived.Test.YtfhegjjgfaeinaaPz
namespace Go.Proofs.Ytfhegjjgfaeinaa
open Go Go.RowKit Fl
/-- the states of the first k filters are 0 -/
def stTo (r : Rv) : Nat → Bool
  | 0 => true
  | k + 1 => stTo r k && stillB (r.d k).f3 (r.d k).f4
theorem stTo_false {r : Rv} {k : Nat} (h : stillB (r.d k).f3 (r.d k).f4 = false) : ∀ n, k < n → stTo r n = false
  | 0, hn => absurd hn (by omega)
  | n + 1, hn => by
    by_cases e : k = n
    · subst e; rw [stTo, h, Bool.and_false]
    · rw [stTo, stTo_false h n (by omega), Bool.false_and]
def silB (r : Rv) : Bool := stTo r 4 && (rgsZero [r.e, r.c0, r.c1] 3 && rgsZero [r.l0, r.l1, r.l2, r.l3] 4)
theorem silB_strip (r : Rv) : silB r.strip = silB r := rfl
theorem silB_same {r s : Rv} (h : s.strip = r.strip) : silB s = silB r := by rw [← silB_strip s, h, silB_strip r]
theorem rgs7 (r : Rv) : rgsZero [r.e, r.c0, r.c1, r.l0, r.l1, r.l2, r.l3] 7 = (rgsZero [r.e, r.c0, r.c1] 3 && rgsZero [r.l0, r.l1, r.l2, r.l3] 4) := by
  simp [rgsZero, rat, Bool.and_assoc]
theorem c_zero3 (W : World) (g : Nat) (r : Rv) (h0 : FS W r.e.a r.e.n r.e.c r.e.xs) (h1 : FS W r.c0.a r.c0.n r.c0.c r.c0.xs) (h2 : FS W r.c1.a r.c1.n r.c1.c r.c1.xs) {T : TypeId} (hg : W.heap[g]? = some (.cells #[.slice r.e.a r.e.n r.e.c, .int .i64 r.e.i, .slice r.c0.a r.c0.n r.c0.c, .int .i64 r.c0.i, .slice r.c1.a r.c1.n r.c1.c, .int .i64 r.c1.i] T)) :
    Calls Try.prog 136 #[.slice (some ⟨g, 0, none⟩) 3 3] W (RetB (rgsZero [r.e, r.c0, r.c1] 3) W) :=
  c_l04Zero g 0 [r.e, r.c0, r.c1] 3 3 W (by omega) (fun j hj => match j, hj with
    | 0, _ => ⟨cell_block hg _, cell_block hg _, h0⟩
    | 1, _ => ⟨cell_block hg _, cell_block hg _, h1⟩
    | 2, _ => ⟨cell_block hg _, cell_block hg _, h2⟩
    | k + 3, h => absurd h (by omega))
theorem c_l02StillD {w : World} {b : Nat} {r : Rv} {T : TypeId} (kb : w.heap[b]? = some (.cells r.cells T)) {k : Nat} (hk : k < 4) :
    Calls Try.prog 137 #[.pointer (some ⟨b, 17 + k * 6, none⟩)] w (RetB (stillB (r.d k).f3 (r.d k).f4) w) := by
  obtain ⟨h0, h1, h2, h3, h4, h5⟩ := d_cells kb k hk
  exact c_l02Still b (17 + k * 6) _ _ w h4 h5
theorem ix_fk (r : Rv) (W : World) : ∀ k : Nat, k < 4 → (Instr.index 48 (.agg #[.int .i64 r.d0.k, .float .f32 r.d0.f0, .float .f32 r.d0.f1, .float .f32 r.d0.f2, .float .f32 r.d0.f3, .float .f32 r.d0.f4, .int .i64 r.d1.k, .float .f32 r.d1.f0, .float .f32 r.d1.f1, .float .f32 r.d1.f2, .float .f32 r.d1.f3, .float .f32 r.d1.f4, .int .i64 r.d2.k, .float .f32 r.d2.f0, .float .f32 r.d2.f1, .float .f32 r.d2.f2, .float .f32 r.d2.f3, .float .f32 r.d2.f4, .int .i64 r.d3.k, .float .f32 r.d3.f0, .float .f32 r.d3.f1, .float .f32 r.d3.f2, .float .f32 r.d3.f3, .float .f32 r.d3.f4]) (.int .i64 (k : Int))).run Try.prog W = .ok (.agg #[.int .i64 (r.d k).k, .float .f32 (r.d k).f0, .float .f32 (r.d k).f1, .float .f32 (r.d k).f2, .float .f32 (r.d k).f3, .float .f32 (r.d k).f4]) W
  | 0, _ => ix_filt0 _ _ _ _ _ _ _ _ _ _ _ _ _ _ _ _ _ _ _ _ _ _ _ _ W
  | 1, _ => ix_filt1 _ _ _ _ _ _ _ _ _ _ _ _ _ _ _ _ _ _ _ _ _ _ _ _ W
  | 2, _ => ix_filt2 _ _ _ _ _ _ _ _ _ _ _ _ _ _ _ _ _ _ _ _ _ _ _ _ W
  | 3, _ => ix_filt3 _ _ _ _ _ _ _ _ _ _ _ _ _ _ _ _ _ _ _ _ _ _ _ _ W
  | k + 4, h => absurd h (by omega)
set_option maxRecDepth 100000 in
set_option maxHeartbeats 1000000 in
theorem c_roomStill (b : Nat) (r : Rv) (w : World) {T : TypeId} (kb : w.heap[b]? = some (.cells r.cells T)) :
    Calls Try.prog 117 #[.pointer (some ⟨b, 0, none⟩)] w (RetV (.bool (stTo r 4)) w) := by
  have kbb : blkAt w b = some (.cells r.cells T) := kb
  have HX := Lib.hid (fun W k hk => ix_fk r W k hk)
  clear kb
  go_enter Try.func117, Try.ntmps117
  go_wp2
  clear kbb
  go_loopw [4, 9] (fun _ i wr => ∃ k : Nat, k ≤ 4 ∧ i = .int .i64 k ∧ Hid (stTo r k = true) ∧ Below w.heap.size w wr) (fun _ i _ => 4 - (intOf i).toNat)
  case atStart => exact ⟨0, by omega, rfl, rfl, Below.refl _ _⟩
  case round =>
    obtain ⟨k, hk, rfl, hall, hbe⟩ := hrel
    by_cases hlt : k < 4
    · have hix := HX.out wr k hlt
      have hT : stTo r (k + 1) = (stTo r k && stillB (r.d k).f3 (r.d k).f4) := rfl
      have HS : Hid (∀ W, Calls Try.prog 93 #[.agg #[.int .i64 (r.d k).k, .float .f32 (r.d k).f0, .float .f32 (r.d k).f1, .float .f32 (r.d k).f2, .float .f32 (r.d k).f3, .float .f32 (r.d k).f4]] W (RetV (.bool (stillB (r.d k).f3 (r.d k).f4)) W)) := fun W => c_isStill _ _ _ _ _ _ W
      cases o1 : stillB (r.d k).f3 (r.d k).f4
      · rw [o1] at HS
        have HU := Lib.hid (stTo_false (r := r) (k := k) o1 4 hlt)
        clear o1 hT
        go_wp2_with fail
        refine (HS.out _).mono ?_
        rintro e w1 ⟨rfl, hb1⟩
        have bz := hbe.size
        have b1 : Below w.heap.size w w1 := Below.trans (by (repeat (first | (with_reducible refine Below.drewN ?_) | (with_reducible refine Below.drew ?_) | ((with_reducible refine Below.alloc ?_ ?_ _); rotate_left; (first | omega | (simp <;> omega))) | ((with_reducible refine Below.setCell ?_ ?_ _); rotate_left; (first | omega | (simp <;> omega))) | (with_reducible exact Below.refl _ _) | (with_reducible assumption)))) (hb1.mono (by simp; omega))
        go_wp2
        go_ret
        exact ⟨by rw [HU.out]; rfl, b1⟩
      rw [o1] at HS
      have HU : Hid (stTo r (k + 1) = true) := by rw [hT, hall.out, o1]; rfl
      clear o1 hT
      go_wp2_with fail
      refine (HS.out _).mono ?_
      rintro e w1 ⟨rfl, hb1⟩
      have bz := hbe.size
      have b1 : Below w.heap.size w w1 := Below.trans (by (repeat (first | (with_reducible refine Below.drewN ?_) | (with_reducible refine Below.drew ?_) | ((with_reducible refine Below.alloc ?_ ?_ _); rotate_left; (first | omega | (simp <;> omega))) | ((with_reducible refine Below.setCell ?_ ?_ _); rotate_left; (first | omega | (simp <;> omega))) | (with_reducible exact Below.refl _ _) | (with_reducible assumption)))) (hb1.mono (by simp; omega))
      go_wp2
      go_roundw
      case rel => exact ⟨k + 1, by omega, by go_num, HU, b1⟩
      case measure => simp [intOf]; omega
    · obtain rfl : k = 4 := by omega
      go_wp2
      go_ret
      exact ⟨by rw [hall.out]; rfl, hbe⟩
def rpA (b : Nat) : Nat → List Value
  | 0 => [.pointer (some ⟨b, 0, none⟩)]
  | k + 1 => rpA b k ++ [.pointer (some ⟨b, 3 + k * 3, none⟩)]
def rpB (b : Nat) : Nat → List Value
  | 0 => rpA b 2
  | k + 1 => rpB b k ++ [.pointer (some ⟨b, 9 + k * 2, none⟩)]
set_option maxRecDepth 100000 in
set_option maxHeartbeats 1000000 in
theorem c_roomRings (b : Nat) (w : World) : Calls Try.prog 116 #[.pointer (some ⟨b, 0, none⟩)] w (fun e w' => ∃ v, e = .returned v ∧ Below w.heap.size w w' ∧ w'.ownsRow w.heap.size 122 1 v 7 (rpB b 4)) := by
  have R0 : Hid ((w.alloc (.cells #[.pointer (some ⟨b, 0, none⟩)] 122)).ownsRow w.heap.size 122 1 (.slice (some ⟨w.heap.size, 0, none⟩) 1 1) 1 (rpA b 0)) :=
    ⟨rfl, .inr ⟨w.heap.size, 1, #[.pointer (some ⟨b, 0, none⟩)], rfl, Nat.le_refl _, (MapKept.heap_alloc w _).1, by omega, by unfold maxLen; omega, rfl, rfl⟩⟩
  go_enter Try.func116, Try.ntmps116
  go_wp2
  go_loopw [3, 4, 10] (fun vv _ i wr => ∃ k : Nat, k ≤ 2 ∧ i = .int .i64 k ∧ Hid (wr.ownsRow w.heap.size 122 1 vv (1 + k) (rpA b k)) ∧ Below w.heap.size w wr) (fun _ _ i _ => 2 - (intOf i).toNat)
  case atStart => exact ⟨0, by omega, rfl, R0, by (repeat (first | (with_reducible refine Below.drewN ?_) | (with_reducible refine Below.drew ?_) | ((with_reducible refine Below.alloc ?_ ?_ _); rotate_left; (first | omega | (simp <;> omega))) | ((with_reducible refine Below.setCell ?_ ?_ _); rotate_left; (first | omega | (simp <;> omega))) | (with_reducible exact Below.refl _ _) | (with_reducible assumption)))⟩
  case round =>
    clear R0
    obtain ⟨k, hk, rfl, hown, hbe⟩ := hrel
    by_cases hlt : k < 2
    · obtain ⟨v', W', hap, hown', hbl⟩ := run_ptrs (wr.alloc (.cells #[.pointer (some ⟨b, 3 + k * 3, none⟩)] 122)) w.heap.size u3 (1 + k) _ (own_keep hown.out (Below.alloc (Below.refl _ _) (Nat.le_refl _) _)) (by omega) (by have := hbe.size; simp; omega) wr.heap.size 1 [.pointer (some ⟨b, 3 + k * 3, none⟩)] rfl (by omega) (fun u hu => by simp at hu; subst hu; exact ⟨_, rfl⟩) (MapKept.heap_alloc wr _).1
      have bz := hbe.size
      have hB : Hid (Below w.heap.size w W') := Below.trans (by (repeat (first | (with_reducible refine Below.drewN ?_) | (with_reducible refine Below.drew ?_) | ((with_reducible refine Below.alloc ?_ ?_ _); rotate_left; (first | omega | (simp <;> omega))) | ((with_reducible refine Below.setCell ?_ ?_ _); rotate_left; (first | omega | (simp <;> omega))) | (with_reducible exact Below.refl _ _) | (with_reducible assumption)))) hbl
      have hO := Lib.hid hown'
      clear hown hown' hbl hbe
      go_wp2
      go_roundw
      case rel => exact ⟨k + 1, by omega, by go_num, hO, hB.out⟩
      case measure => simp [intOf]; omega
    · obtain rfl : k = 2 := by omega
      have hown2 : Hid (wr.ownsRow w.heap.size 122 1 u3 3 (rpB b 0)) := hown.out
      clear hown
      have HB := Lib.hid hbe
      go_wp2
      go_loopw [3, 5, 23] (fun vv _ i wq => ∃ k : Nat, k ≤ 4 ∧ i = .int .i64 k ∧ Hid (wq.ownsRow w.heap.size 122 1 vv (3 + k) (rpB b k)) ∧ Below w.heap.size w wq) (fun _ _ i _ => 4 - (intOf i).toNat)
      case atStart => exact ⟨0, by omega, rfl, hown2, hbe⟩
      case round =>
        clear hown2 hbe
        obtain ⟨k, hk, rfl, hown, hbe⟩ := hrel
        by_cases hlt : k < 4
        · obtain ⟨v', W', hap, hown', hbl⟩ := run_ptrs (wr.alloc (.cells #[.pointer (some ⟨b, 9 + k * 2, none⟩)] 122)) w.heap.size u3 (3 + k) _ (own_keep hown.out (Below.alloc (Below.refl _ _) (Nat.le_refl _) _)) (by omega) (by have := hbe.size; simp; omega) wr.heap.size 1 [.pointer (some ⟨b, 9 + k * 2, none⟩)] rfl (by omega) (fun u hu => by simp at hu; subst hu; exact ⟨_, rfl⟩) (MapKept.heap_alloc wr _).1
          have bz := hbe.size
          have hB : Hid (Below w.heap.size w W') := Below.trans (by (repeat (first | (with_reducible refine Below.drewN ?_) | (with_reducible refine Below.drew ?_) | ((with_reducible refine Below.alloc ?_ ?_ _); rotate_left; (first | omega | (simp <;> omega))) | ((with_reducible refine Below.setCell ?_ ?_ _); rotate_left; (first | omega | (simp <;> omega))) | (with_reducible exact Below.refl _ _) | (with_reducible assumption)))) hbl
          have hO := Lib.hid hown'
          clear hown hown' hbl hbe
          go_wp2
          go_roundw
          case rel => exact ⟨k + 1, by omega, by go_num, hO, hB.out⟩
          case measure => simp [intOf]; omega
        · obtain rfl : k = 4 := by omega
          go_wp2
          go_ret
          exact ⟨_, rfl, hbe, hown.out⟩
theorem c_roomRingsP (b : Nat) (r : Rv) (w : World) {T : TypeId} (kb : w.heap[b]? = some (.cells r.cells T)) (h : RvM w r) :
    Calls Try.prog 116 #[.pointer (some ⟨b, 0, none⟩)] w (fun e w' => ∃ g c, e = .returned (.slice (some ⟨g, 0, none⟩) 7 c) ∧ Below w.heap.size w w' ∧ PS w' g 7 c [r.e, r.c0, r.c1, r.l0, r.l1, r.l2, r.l3]) := by
  have hb := (Array.getElem?_eq_some_iff.1 kb).1
  refine (c_roomRings b w).mono ?_
  rintro e w' ⟨v, rfl, hb', ho⟩
  obtain ⟨g, c, rfl, hbg, hgl, hc, hcm, hcell⟩ := own_cells ho (by omega)
  have kb' := (hb'.block b hb).trans kb
  have h' := h.below hb' (Nat.le_refl _)
  have hbl : b < w'.heap.size := Nat.lt_of_lt_of_le hb hb'.size
  refine ⟨g, c, rfl, hb', hgl, hc, hcm, fun j hj => ?_⟩
  match j, hj with
  | 0, _ => exact ⟨b, 0, hcell 0 _ rfl, hbl, blk_cell kb' rfl, blk_cell kb' rfl, h'.q0⟩
  | 1, _ => exact ⟨b, 3, hcell 1 _ rfl, hbl, blk_cell kb' rfl, blk_cell kb' rfl, h'.q1⟩
  | 2, _ => exact ⟨b, 6, hcell 2 _ rfl, hbl, blk_cell kb' rfl, blk_cell kb' rfl, h'.q2⟩
  | 3, _ => exact ⟨b, 9, hcell 3 _ rfl, hbl, blk_cell kb' rfl, blk_cell kb' rfl, h'.q3⟩
  | 4, _ => exact ⟨b, 11, hcell 4 _ rfl, hbl, blk_cell kb' rfl, blk_cell kb' rfl, h'.q4⟩
  | 5, _ => exact ⟨b, 13, hcell 5 _ rfl, hbl, blk_cell kb' rfl, blk_cell kb' rfl, h'.q5⟩
  | 6, _ => exact ⟨b, 15, hcell 6 _ rfl, hbl, blk_cell kb' rfl, blk_cell kb' rfl, h'.q6⟩
  | j + 7, h => exact absurd h (by omega)
set_option maxRecDepth 100000 in
set_option maxHeartbeats 2000000 in
theorem c_l06Silent (b : Nat) (r : Rv) (w : World) {T : TypeId} (kb : w.heap[b]? = some (.cells r.cells T)) (h : RvM w r) :
    Calls Try.prog 115 #[.pointer (some ⟨b, 0, none⟩)] w (RetV (.bool (silB r)) w) := by
  have N := Lib.hid h
  have hb := (Array.getElem?_eq_some_iff.1 kb).1
  have KB := Lib.hid kb
  have KL : Hid (∀ W, Below w.heap.size w W → Calls Try.prog 144 #[.pointer (some ⟨b, 0, none⟩)] W (fun e w' => ∃ g, e = .returned (.slice (some ⟨g, 0, none⟩) 4 4) ∧ Below W.heap.size W w' ∧ w'.heap[g]? = some (.cells #[.slice r.l0.a r.l0.n r.l0.c, .int .i64 r.l0.i, .slice r.l1.a r.l1.n r.l1.c, .int .i64 r.l1.i, .slice r.l2.a r.l2.n r.l2.c, .int .i64 r.l2.i, .slice r.l3.a r.l3.n r.l3.c, .int .i64 r.l3.i] 42))) := fun W hW => c_l06Loops b r W ((hW.block b hb).trans kb)
  have KZ : Hid (∀ W g, Below w.heap.size w W → W.heap[g]? = some (.cells #[.slice r.e.a r.e.n r.e.c, .int .i64 r.e.i, .slice r.c0.a r.c0.n r.c0.c, .int .i64 r.c0.i, .slice r.c1.a r.c1.n r.c1.c, .int .i64 r.c1.i] 42) → Calls Try.prog 136 #[.slice (some ⟨g, 0, none⟩) 3 3] W (RetB (rgsZero [r.e, r.c0, r.c1] 3) W)) := fun W g hW hg => c_zero3 W g r (h.q0.below hW (Nat.le_refl _)) (h.q1.below hW (Nat.le_refl _)) (h.q2.below hW (Nat.le_refl _)) hg
  have KY : Hid (∀ W g, Below w.heap.size w W → W.heap[g]? = some (.cells #[.slice r.l0.a r.l0.n r.l0.c, .int .i64 r.l0.i, .slice r.l1.a r.l1.n r.l1.c, .int .i64 r.l1.i, .slice r.l2.a r.l2.n r.l2.c, .int .i64 r.l2.i, .slice r.l3.a r.l3.n r.l3.c, .int .i64 r.l3.i] 42) → Calls Try.prog 136 #[.slice (some ⟨g, 0, none⟩) 4 4] W (RetB (rgsZero [r.l0, r.l1, r.l2, r.l3] 4) W)) := fun W g hW hg => c_l04Zero g 0 [r.l0, r.l1, r.l2, r.l3] 4 4 W (by omega) (c_rings4 W g r (h.q3.below hW (Nat.le_refl _)) (h.q4.below hW (Nat.le_refl _)) (h.q5.below hW (Nat.le_refl _)) (h.q6.below hW (Nat.le_refl _)) hg)
  clear h kb
  go_enter Try.func115, Try.ntmps115
  go_wp2
  go_loopw [3] (fun i wr => ∃ k : Nat, k ≤ 4 ∧ i = .int .i64 k ∧ Hid (stTo r k = true) ∧ ∃ q, wr = w.drewN q) (fun i _ => 4 - (intOf i).toNat)
  case atStart => exact ⟨0, by omega, rfl, rfl, same0 _⟩
  case round =>
    obtain ⟨k, hk, rfl, hall, q, hwr⟩ := hrel
    by_cases hlt : k < 4
    · subst hwr
      have KD : Hid (∀ m, Calls Try.prog 137 #[.pointer (some ⟨b, 17 + k * 6, none⟩)] (w.drewN m) (RetB (stillB (r.d k).f3 (r.d k).f4) (w.drewN m))) := fun m => c_l02StillD (w := w.drewN m) KB.out hlt
      have hT : stTo r (k + 1) = (stTo r k && stillB (r.d k).f3 (r.d k).f4) := rfl
      cases o1 : stillB (r.d k).f3 (r.d k).f4
      · rw [o1] at KD
        have HU : Hid (silB r = false) := by show _ = _; unfold silB; rw [stTo_false (r := r) (k := k) o1 4 hlt]; rfl
        clear o1 hT
        go_wp2_with fail
        refine (KD.out _).mono ?_
        rintro e w' ⟨rfl, d7, rfl⟩
        go_wp2
        go_ret
        exact ⟨by rw [HU.out]; rfl, by (repeat (first | (with_reducible refine Below.drewN ?_) | (with_reducible refine Below.drew ?_) | ((with_reducible refine Below.alloc ?_ ?_ _); rotate_left; (first | omega | (simp <;> omega))) | ((with_reducible refine Below.setCell ?_ ?_ _); rotate_left; (first | omega | (simp <;> omega))) | (with_reducible exact Below.refl _ _) | (with_reducible assumption)))⟩
      rw [o1] at KD
      have HU : Hid (stTo r (k + 1) = true) := by rw [hT, hall.out, o1]; rfl
      clear o1 hT
      go_wp2_with fail
      refine (KD.out _).mono ?_
      rintro e w' ⟨rfl, d7, rfl⟩
      go_wp2
      go_roundw
      case rel => exact ⟨k + 1, by omega, by go_num, HU, (by first | exact same1 _ _ | exact ⟨_, by rw [World.drewN_drewN]⟩)⟩
      case measure => simp [intOf]; omega
    · obtain rfl : k = 4 := by omega
      have HD := Lib.hid hall.out
      have bW : Below w.heap.size w wr := by rw [hwr]; exact Below.drewN (Below.refl _ _)
      have kb3 : wr.heap[b]? = some (.cells r.cells T) := by rw [hwr]; exact KB.out
      have hb3 : b < wr.heap.size := by rw [hwr]; exact hb
      have a0 : wr.cell? ⟨b, 0, none⟩ = some (.slice r.e.a r.e.n r.e.c) := blk_cell kb3 rfl
      have a1 : wr.cell? ⟨b, 1, none⟩ = some (.int .i64 r.e.i) := blk_cell kb3 rfl
      have a3 : wr.cell? ⟨b, 3, none⟩ = some (.slice r.c0.a r.c0.n r.c0.c) := blk_cell kb3 rfl
      have a4 : wr.cell? ⟨b, 4, none⟩ = some (.int .i64 r.c0.i) := blk_cell kb3 rfl
      have a6 : wr.cell? ⟨b, 6, none⟩ = some (.slice r.c1.a r.c1.n r.c1.c) := blk_cell kb3 rfl
      have a7 : wr.cell? ⟨b, 7, none⟩ = some (.int .i64 r.c1.i) := blk_cell kb3 rfl
      have BE := Lib.hid bW
      clear hwr hall kb3 bW
      cases z1 : rgsZero [r.e, r.c0, r.c1] 3
      · rw [z1] at KZ
        have HU : Hid (silB r = false) := by show _ = _; unfold silB; rw [z1]; simp
        clear z1
        go_wp2
        refine wp_region_grow [17] [16] (by kernel_rfl) (by kernel_rfl) (by kernel_rfl) ?_
        apply Exists.intro
        iterate 16 (apply lh_o; kernel_rfl; kernel_rfl; kernel_rfl; (intro W hW; have hWc := Grow.cells hW; go_simp; exact ⟨OneV.mk _, Grow.refl _⟩))
        (apply lh_new; kernel_rfl; kernel_rfl; kernel_rfl; (intro W hW; have hWc := Grow.cells hW; go_simp; exact ⟨NewAt.mk _ _ _ _, Grow.alloc _ _⟩); intro g hfr)
        (apply lh_h; kernel_rfl; kernel_rfl; kernel_rfl; (intro W hW; go_simp; first | exact gB (KZ.out _ _ (BE.out.trans (Below.mono hW.1 BE.out.size)) hW.2) | exact gV (KZ.out _ _ (BE.out.trans (Below.mono hW.1 BE.out.size)) hW.2)))
        (apply lh_o; kernel_rfl; kernel_rfl; kernel_rfl; (intro W hW; have hWc := Grow.cells hW; go_simp; exact ⟨OneV.mk _, Grow.refl _⟩))
        iterate 3 (apply lh_skip; kernel_rfl; kernel_rfl)
        iterate 2 (apply lh_o; kernel_rfl; kernel_rfl; kernel_rfl; (intro W hW; have hWc := Grow.cells hW; go_simp; exact ⟨OneV.mk _, Grow.refl _⟩))
        (refine lh_nil ?_; intro W hW; simp only [Act.put, List.setIfInBounds_toArray, List.set_cons_succ, List.set_cons_zero])
        go_wp2
        go_ret
        exact ⟨by rw [HU.out]; rfl, BE.out.trans (Below.mono hW.1 BE.out.size)⟩
      rw [z1] at KZ
      have HU : Hid (silB r = rgsZero [r.l0, r.l1, r.l2, r.l3] 4) := by show _ = _; unfold silB; rw [HD.out, z1]; rfl
      clear z1
      go_wp2
      refine wp_region_grow [17, 21] [16, 20] (by kernel_rfl) (by kernel_rfl) (by kernel_rfl) ?_
      apply Exists.intro
      iterate 16 (apply lh_o; kernel_rfl; kernel_rfl; kernel_rfl; (intro W hW; have hWc := Grow.cells hW; go_simp; exact ⟨OneV.mk _, Grow.refl _⟩))
      (apply lh_new; kernel_rfl; kernel_rfl; kernel_rfl; (intro W hW; have hWc := Grow.cells hW; go_simp; exact ⟨NewAt.mk _ _ _ _, Grow.alloc _ _⟩); intro g hfr)
      (apply lh_h; kernel_rfl; kernel_rfl; kernel_rfl; (intro W hW; go_simp; first | exact gB (KZ.out _ _ (BE.out.trans (Below.mono hW.1 BE.out.size)) hW.2) | exact gV (KZ.out _ _ (BE.out.trans (Below.mono hW.1 BE.out.size)) hW.2)))
      iterate 2 (apply lh_o; kernel_rfl; kernel_rfl; kernel_rfl; (intro W hW; have hWc := Grow.cells hW; go_simp; exact ⟨OneV.mk _, Grow.refl _⟩))
      apply lh_w (fun g2 : Nat => Value.slice (some ⟨g2, 0, none⟩) 4 4) (fun g2 w' => w'.heap[g2]? = some (.cells #[.slice r.l0.a r.l0.n r.l0.c, .int .i64 r.l0.i, .slice r.l1.a r.l1.n r.l1.c, .int .i64 r.l1.i, .slice r.l2.a r.l2.n r.l2.c, .int .i64 r.l2.i, .slice r.l3.a r.l3.n r.l3.c, .int .i64 r.l3.i] 42)) 0 (fun g2 w w' h hg => (Below.block hg _ (Array.getElem?_eq_some_iff.1 h).1).trans h) (fun i j h => by simp at h; exact h)
      kernel_rfl
      kernel_rfl
      kernel_rfl
      · intro W hW
        go_simp
        exact (KL.out W (BE.out.trans (Below.mono hW BE.out.size))).mono fun e w' ⟨g2, he, hb2, hg2⟩ => ⟨g2, he, hg2, hb2⟩
      exact anti
      intro g2
      (apply lh_h; kernel_rfl; kernel_rfl; kernel_rfl; (intro W hW; go_simp; first | exact gB (KY.out _ _ (BE.out.trans (Below.mono hW.1.1 BE.out.size)) hW.2) | exact gV (KY.out _ _ (BE.out.trans (Below.mono hW.1.1 BE.out.size)) hW.2)))
      iterate 2 (apply lh_o; kernel_rfl; kernel_rfl; kernel_rfl; (intro W hW; have hWc := Grow.cells hW; go_simp; exact ⟨OneV.mk _, Grow.refl _⟩))
      (refine lh_nil ?_; intro W hW; simp only [Act.put, List.setIfInBounds_toArray, List.set_cons_succ, List.set_cons_zero])
      go_wp2
      go_ret
      exact ⟨by rw [HU.out]; rfl, BE.out.trans (Below.mono hW.1.1 BE.out.size)⟩
end Go.Proofs.Ytfhegjjgfaeinaa
