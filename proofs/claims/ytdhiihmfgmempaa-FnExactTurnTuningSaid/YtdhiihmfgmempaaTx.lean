
/-
A tuning that begins with another degree: the program.
-/
import Derived.Test.YtdhiihmfgmempaaEt
import Derived.Test.YtdhiihmfgmempaaTq
import Derived.Test.YtdhiihmfgmempaaHz
namespace Go.Proofs.Ytdhiihmfgmempaa
open Go Go.RowKit Fl
theorem three_cells {w : World} {b : Nat} {v0 v1 v2 : Value} {T : TypeId} (h : blkAt w b = some (.cells #[v0, v1, v2] T)) :
    w.cell? ⟨b, 0, none⟩ = some v0 ∧ w.cell? ⟨b, 1, none⟩ = some v1 ∧ w.cell? ⟨b, 2, none⟩ = some v2 ∧ w.frozen? ⟨b, 0, none⟩ = false ∧ w.frozen? ⟨b, 1, none⟩ = false ∧ w.frozen? ⟨b, 2, none⟩ = false :=
  ⟨cell_blk h 0, cell_blk h 1, cell_blk h 2, frozen_blk h 0, frozen_blk h 1, frozen_blk h 2⟩
theorem tunB_nv (b t oc n : Nat) (xs : List Nat) : tunB (nv .f32 b t) oc xs n = tunB b oc xs n := by unfold tunB; rw [insB_nv]
/-- the turned tuning, or a code where it is none -/
def TurnPost (R oc n : Nat) (ys : List Nat) (w : World) (e : Ending) (w' : World) : Prop := if tunB R oc ys n = true then NewTuning R oc n ys 0 w e w' else NewTuning 0 0 0 [] 4 w e w'
theorem TurnPost.yes {R oc n : Nat} {ys : List Nat} {w w' : World} {e : Ending} (h : tunB R oc ys n = true) (k : NewTuning R oc n ys 0 w e w') : TurnPost R oc n ys w e w' := by unfold TurnPost; rw [if_pos h]; exact k
theorem TurnPost.no {R oc n : Nat} {ys : List Nat} {w w' : World} {e : Ending} (h : tunB R oc ys n = false) (k : NewTuning 0 0 0 [] 4 w e w') : TurnPost R oc n ys w e w' := by unfold TurnPost; rw [if_neg (by rw [h]; decide)]; exact k
theorem c_TurnTuning_bad (ba oc : Nat) (a : Option Addr) (n c : Nat) (xs : List Nat) (dg : Int) (w : World) (h : FS w a n c xs) (hv : tunB ba oc xs n = false) :
    Calls Try.prog 66 #[.agg #[.float .f32 ba, .float .f32 oc, .slice a n c], .int .i64 dg] w (NewTuning 0 0 0 [] 1 w) := by
  have K1 : Hid (∀ W, Below w.heap.size w W → Calls Try.prog 29 #[.agg #[.float .f32 ba, .float .f32 oc, .slice a n c]] W (RetV (.bool false) W)) := fun W hb => hv ▸ c_ValidTuning _ _ _ _ _ xs W (h.below hb (Nat.le_refl _))
  clear h hv
  go_enter Try.func66, Try.ntmps66
  go_wp2_with fail
  refine (K1.out _ (by (repeat (first | (with_reducible refine Below.drewN ?_) | (with_reducible refine Below.drew ?_) | ((with_reducible refine Below.alloc ?_ ?_ _); rotate_left; (first | omega | (simp <;> omega))) | ((with_reducible refine Below.setCell ?_ ?_ _); rotate_left; (first | omega | (simp <;> omega))) | (with_reducible exact Below.refl _ _) | (with_reducible assumption))))).mono ?_
  rintro e w1 ⟨rfl, hb1⟩
  obtain ⟨hc1, hf1, hz1⟩ := bcell hb1
  try simp at hz1
  have zb1 : w.heap.size ≤ w1.heap.size := by omega
  try (have z1_0 : w.heap.size < w1.heap.size := by omega)
  try (have z1_1 : w.heap.size + 1 < w1.heap.size := by omega)
  try (have z1_2 : w.heap.size + 1 + 1 < w1.heap.size := by omega)
  try (have z1_3 : w.heap.size + 1 + 1 + 1 < w1.heap.size := by omega)
  have b1 : Below w.heap.size w w1 := Below.trans (by (repeat (first | (with_reducible refine Below.drewN ?_) | (with_reducible refine Below.drew ?_) | ((with_reducible refine Below.alloc ?_ ?_ _); rotate_left; (first | omega | (simp <;> omega))) | ((with_reducible refine Below.setCell ?_ ?_ _); rotate_left; (first | omega | (simp <;> omega))) | (with_reducible exact Below.refl _ _) | (with_reducible assumption)))) (hb1.mono (by first | omega | (simp <;> omega)))
  go_wp2
  refine bodyPost_ret (v := ?v) (by simp [results, Try.results66, go_sem, *] <;> rfl) rfl ?_
  exact ⟨none, 0, 0, 0, 0, rfl, by (repeat (first | (with_reducible refine Below.drewN ?_) | (with_reducible refine Below.drew ?_) | ((with_reducible refine Below.alloc ?_ ?_ _); rotate_left; (first | omega | (simp <;> omega))) | ((with_reducible refine Below.setCell ?_ ?_ _); rotate_left; (first | omega | (simp <;> omega))) | (with_reducible exact Below.refl _ _) | (with_reducible assumption))), by omega, OF.nil _ _⟩
theorem c_TurnTuning_deg (ba oc : Nat) (a : Option Addr) (n c : Nat) (xs : List Nat) (dg : Int) (w : World) (h : FS w a n c xs) (hv : tunB ba oc xs n = true) (hd : inB dg 0 ((n : Int) - 1) = false) :
    Calls Try.prog 66 #[.agg #[.float .f32 ba, .float .f32 oc, .slice a n c], .int .i64 dg] w (NewTuning 0 0 0 [] 2 w) := by
  have hn := tunB_n hv
  have g : IntKind.i64.wrap ((n : Int) - 1) = (n : Int) - 1 := IntWalk.i64_in _ (by omega)
  have K1 : Hid (∀ W, Below w.heap.size w W → Calls Try.prog 29 #[.agg #[.float .f32 ba, .float .f32 oc, .slice a n c]] W (RetV (.bool true) W)) := fun W hb => hv ▸ c_ValidTuning _ _ _ _ _ xs W (h.below hb (Nat.le_refl _))
  clear h hv hn
  go_enter Try.func66, Try.ntmps66
  go_wp2_with fail
  refine (K1.out _ (by (repeat (first | (with_reducible refine Below.drewN ?_) | (with_reducible refine Below.drew ?_) | ((with_reducible refine Below.alloc ?_ ?_ _); rotate_left; (first | omega | (simp <;> omega))) | ((with_reducible refine Below.setCell ?_ ?_ _); rotate_left; (first | omega | (simp <;> omega))) | (with_reducible exact Below.refl _ _) | (with_reducible assumption))))).mono ?_
  rintro e w1 ⟨rfl, hb1⟩
  obtain ⟨hc1, hf1, hz1⟩ := bcell hb1
  try simp at hz1
  have zb1 : w.heap.size ≤ w1.heap.size := by omega
  try (have z1_0 : w.heap.size < w1.heap.size := by omega)
  try (have z1_1 : w.heap.size + 1 < w1.heap.size := by omega)
  try (have z1_2 : w.heap.size + 1 + 1 < w1.heap.size := by omega)
  try (have z1_3 : w.heap.size + 1 + 1 + 1 < w1.heap.size := by omega)
  have b1 : Below w.heap.size w w1 := Below.trans (by (repeat (first | (with_reducible refine Below.drewN ?_) | (with_reducible refine Below.drew ?_) | ((with_reducible refine Below.alloc ?_ ?_ _); rotate_left; (first | omega | (simp <;> omega))) | ((with_reducible refine Below.setCell ?_ ?_ _); rotate_left; (first | omega | (simp <;> omega))) | (with_reducible exact Below.refl _ _) | (with_reducible assumption)))) (hb1.mono (by first | omega | (simp <;> omega)))
  go_wp2_with (first | (go_at_call 79; refine (c_length _ _ _ _).mono ?_; rintro e w' ⟨rfl, rfl⟩) | (go_at_call 74; refine (c_within _ _ _ _).mono ?_; rw [hd]; rintro e w' ⟨rfl, m1, rfl⟩))
  refine bodyPost_ret (v := ?v) (by simp [results, Try.results66, go_sem, *] <;> rfl) rfl ?_
  exact ⟨none, 0, 0, 0, 0, rfl, by (repeat (first | (with_reducible refine Below.drewN ?_) | (with_reducible refine Below.drew ?_) | ((with_reducible refine Below.alloc ?_ ?_ _); rotate_left; (first | omega | (simp <;> omega))) | ((with_reducible refine Below.setCell ?_ ?_ _); rotate_left; (first | omega | (simp <;> omega))) | (with_reducible exact Below.refl _ _) | (with_reducible assumption))), by omega, OF.nil _ _⟩
theorem c_TurnTuning_hz (ba oc : Nat) (a : Option Addr) (n c : Nat) (xs : List Nat) (dg : Nat) (w : World) (h : FS w a n c xs) (hv : tunB ba oc xs n = true) (hd : dg < n) (hx : okX (hzX oc xs n dg) = false) :
    Calls Try.prog 66 #[.agg #[.float .f32 ba, .float .f32 oc, .slice a n c], .int .i64 dg] w (NewTuning 0 0 0 [] 2 w) := by
  have hn := tunB_n hv
  have g : IntKind.i64.wrap ((n : Int) - 1) = (n : Int) - 1 := IntWalk.i64_in _ (by omega)
  have hdi : inB (dg : Int) 0 ((n : Int) - 1) = true := by unfold inB; rw [decide_eq_true (show (0 : Int) ≤ dg by omega), decide_eq_true (show (dg : Int) ≤ (n : Int) - 1 by omega)]; rfl
  have K1 : Hid (∀ W, Below w.heap.size w W → Calls Try.prog 29 #[.agg #[.float .f32 ba, .float .f32 oc, .slice a n c]] W (RetV (.bool true) W)) := fun W hb => hv ▸ c_ValidTuning _ _ _ _ _ xs W (h.below hb (Nat.le_refl _))
  have hc : cdX (hzX oc xs n dg) = 2 := by unfold cdX; rw [hx]; rfl
  have K2 : Hid (∀ W, Below w.heap.size w W → Calls Try.prog 106 #[.agg #[.float .f32 ba, .float .f32 oc, .slice a n c], .int .i64 dg] W (RetFC (hzF ba (hzX oc xs n dg)) 2 W)) := fun W hb => hc ▸ c_hertz _ _ _ _ _ xs dg W (h.below hb (Nat.le_refl _)) hn.1 hn.2 (by omega) (by omega)
  generalize hzF ba (hzX oc xs n dg) = R at *
  clear h hv hn hd hx hc
  go_enter Try.func66, Try.ntmps66
  go_wp2_with fail
  refine (K1.out _ (by (repeat (first | (with_reducible refine Below.drewN ?_) | (with_reducible refine Below.drew ?_) | ((with_reducible refine Below.alloc ?_ ?_ _); rotate_left; (first | omega | (simp <;> omega))) | ((with_reducible refine Below.setCell ?_ ?_ _); rotate_left; (first | omega | (simp <;> omega))) | (with_reducible exact Below.refl _ _) | (with_reducible assumption))))).mono ?_
  rintro e w1 ⟨rfl, hb1⟩
  obtain ⟨hc1, hf1, hz1⟩ := bcell hb1
  try simp at hz1
  have zb1 : w.heap.size ≤ w1.heap.size := by omega
  try (have z1_0 : w.heap.size < w1.heap.size := by omega)
  try (have z1_1 : w.heap.size + 1 < w1.heap.size := by omega)
  try (have z1_2 : w.heap.size + 1 + 1 < w1.heap.size := by omega)
  try (have z1_3 : w.heap.size + 1 + 1 + 1 < w1.heap.size := by omega)
  have b1 : Below w.heap.size w w1 := Below.trans (by (repeat (first | (with_reducible refine Below.drewN ?_) | (with_reducible refine Below.drew ?_) | ((with_reducible refine Below.alloc ?_ ?_ _); rotate_left; (first | omega | (simp <;> omega))) | ((with_reducible refine Below.setCell ?_ ?_ _); rotate_left; (first | omega | (simp <;> omega))) | (with_reducible exact Below.refl _ _) | (with_reducible assumption)))) (hb1.mono (by first | omega | (simp <;> omega)))
  go_wp2_with (first | (go_at_call 79; refine (c_length _ _ _ _).mono ?_; rintro e w' ⟨rfl, rfl⟩) | (go_at_call 74; refine (c_within _ _ _ _).mono ?_; rw [hdi]; rintro e w' ⟨rfl, m1, rfl⟩))
  refine (K2.out _ (by (repeat (first | (with_reducible refine Below.drewN ?_) | (with_reducible refine Below.drew ?_) | ((with_reducible refine Below.alloc ?_ ?_ _); rotate_left; (first | omega | (simp <;> omega))) | ((with_reducible refine Below.setCell ?_ ?_ _); rotate_left; (first | omega | (simp <;> omega))) | (with_reducible exact Below.refl _ _) | (with_reducible assumption))))).mono ?_
  rintro e w2 ⟨t, rfl, hb2⟩
  obtain ⟨hc2, hf2, hz2⟩ := bcell hb2
  try simp at hz2
  have zb2 : w.heap.size ≤ w2.heap.size := by omega
  try (have z2_0 : w.heap.size < w2.heap.size := by omega)
  try (have z2_1 : w.heap.size + 1 < w2.heap.size := by omega)
  try (have z2_2 : w.heap.size + 1 + 1 < w2.heap.size := by omega)
  try (have z2_3 : w.heap.size + 1 + 1 + 1 < w2.heap.size := by omega)
  have b2 : Below w.heap.size w w2 := Below.trans (by (repeat (first | (with_reducible refine Below.drewN ?_) | (with_reducible refine Below.drew ?_) | ((with_reducible refine Below.alloc ?_ ?_ _); rotate_left; (first | omega | (simp <;> omega))) | ((with_reducible refine Below.setCell ?_ ?_ _); rotate_left; (first | omega | (simp <;> omega))) | (with_reducible exact Below.refl _ _) | (with_reducible assumption)))) (hb2.mono (by first | omega | (simp <;> omega)))
  have k2 : blkAt w2 w.heap.size = some (.cells #[.float .f32 ba, .float .f32 oc, .slice a n c] 31) := (hb2.block w.heap.size (by simpa using z1_0)).trans ((hb1.block w.heap.size (by simp; omega)).trans ((blk_alloc_ne _ _ _ (by simp)).trans (blk_alloc _ _)))
  have r2 : blkAt w2 (w.heap.size + 1) = some (.cells #[.float .f32 0, .float .f32 0, .slice none 0 0] 31) := (hb2.block _ (by simpa using z1_1)).trans ((hb1.block _ (by simp)).trans (blk_alloc_at _ _ _ (by simp)))
  obtain ⟨t0, t1, t2, _, _, _⟩ := three_cells k2
  obtain ⟨r0, r1, r3, f0, f1, f3⟩ := three_cells r2
  clear hc1 hf1 hc2 hf2
  go_wp2
  refine bodyPost_ret (v := ?v) (by simp [results, Try.results66, go_sem, *] <;> rfl) rfl ?_
  exact ⟨none, 0, 0, 0, 0, rfl, by (repeat (first | (with_reducible refine Below.drewN ?_) | (with_reducible refine Below.drew ?_) | ((with_reducible refine Below.alloc ?_ ?_ _); rotate_left; (first | omega | (simp <;> omega))) | ((with_reducible refine Below.setCell ?_ ?_ _); rotate_left; (first | omega | (simp <;> omega))) | (with_reducible exact Below.refl _ _) | (with_reducible assumption))), by omega, OF.nil _ _⟩
set_option maxRecDepth 10000 in
set_option maxHeartbeats 4000000 in
theorem c_TurnTuning_go (ba oc : Nat) (a : Option Addr) (n c : Nat) (xs : List Nat) (dg : Nat) (w : World) (h : FS w a n c xs) (hv : tunB ba oc xs n = true) (hd : dg < n) (hx : okX (hzX oc xs n dg) = true) :
    Calls Try.prog 66 #[.agg #[.float .f32 ba, .float .f32 oc, .slice a n c], .int .i64 dg] w (TurnPost (hzF ba (hzX oc xs n dg)) oc n (tvP xs oc n dg n) w) := by
  have hn := tunB_n hv
  have g : IntKind.i64.wrap ((n : Int) - 1) = (n : Int) - 1 := IntWalk.i64_in _ (by omega)
  have hdi : inB (dg : Int) 0 ((n : Int) - 1) = true := by unfold inB; rw [decide_eq_true (show (0 : Int) ≤ dg by omega), decide_eq_true (show (dg : Int) ≤ (n : Int) - 1 by omega)]; rfl
  have K1 : Hid (∀ W, Below w.heap.size w W → Calls Try.prog 29 #[.agg #[.float .f32 ba, .float .f32 oc, .slice a n c]] W (RetV (.bool true) W)) := fun W hb => hv ▸ c_ValidTuning _ _ _ _ _ xs W (h.below hb (Nat.le_refl _))
  have hc : cdX (hzX oc xs n dg) = 0 := by unfold cdX; rw [if_pos hx]
  have K2 : Hid (∀ W, Below w.heap.size w W → Calls Try.prog 106 #[.agg #[.float .f32 ba, .float .f32 oc, .slice a n c], .int .i64 dg] W (RetFC (hzF ba (hzX oc xs n dg)) 0 W)) := fun W hb => hc ▸ c_hertz _ _ _ _ _ xs dg W (h.below hb (Nat.le_refl _)) hn.1 hn.2 (by omega) (by omega)
  have HN := Lib.hid (fun i hi => tvD_nan (i := i) hv hd hi)
  have HA : Hid (∀ i, i < n → isNaN .f32 (fop .add .f32 (nth xs i) oc) = false) := fun i hi => add_num ((tun_num hv).2.2 i hi) (tun_num hv).2.1
  generalize hzF ba (hzX oc xs n dg) = R at *
  obtain ⟨bl, o, rfl, hbl, hcell⟩ := h.at_ (by omega)
  have hcap := h.cap
  have hbig := h.big
  have HC := Lib.hid hcell
  clear h hv hx hc hcell
  go_enter Try.func66, Try.ntmps66
  go_wp2_with fail
  refine (K1.out _ (by (repeat (first | (with_reducible refine Below.drewN ?_) | (with_reducible refine Below.drew ?_) | ((with_reducible refine Below.alloc ?_ ?_ _); rotate_left; (first | omega | (simp <;> omega))) | ((with_reducible refine Below.setCell ?_ ?_ _); rotate_left; (first | omega | (simp <;> omega))) | (with_reducible exact Below.refl _ _) | (with_reducible assumption))))).mono ?_
  rintro e w1 ⟨rfl, hb1⟩
  obtain ⟨hc1, hf1, hz1⟩ := bcell hb1
  try simp at hz1
  have zb1 : w.heap.size ≤ w1.heap.size := by omega
  try (have z1_0 : w.heap.size < w1.heap.size := by omega)
  try (have z1_1 : w.heap.size + 1 < w1.heap.size := by omega)
  try (have z1_2 : w.heap.size + 1 + 1 < w1.heap.size := by omega)
  try (have z1_3 : w.heap.size + 1 + 1 + 1 < w1.heap.size := by omega)
  have b1 : Below w.heap.size w w1 := Below.trans (by (repeat (first | (with_reducible refine Below.drewN ?_) | (with_reducible refine Below.drew ?_) | ((with_reducible refine Below.alloc ?_ ?_ _); rotate_left; (first | omega | (simp <;> omega))) | ((with_reducible refine Below.setCell ?_ ?_ _); rotate_left; (first | omega | (simp <;> omega))) | (with_reducible exact Below.refl _ _) | (with_reducible assumption)))) (hb1.mono (by first | omega | (simp <;> omega)))
  go_wp2_with (first | (go_at_call 79; refine (c_length _ _ _ _).mono ?_; rintro e w' ⟨rfl, rfl⟩) | (go_at_call 74; refine (c_within _ _ _ _).mono ?_; rw [hdi]; rintro e w' ⟨rfl, m1, rfl⟩))
  refine (K2.out _ (by (repeat (first | (with_reducible refine Below.drewN ?_) | (with_reducible refine Below.drew ?_) | ((with_reducible refine Below.alloc ?_ ?_ _); rotate_left; (first | omega | (simp <;> omega))) | ((with_reducible refine Below.setCell ?_ ?_ _); rotate_left; (first | omega | (simp <;> omega))) | (with_reducible exact Below.refl _ _) | (with_reducible assumption))))).mono ?_
  rintro e w2 ⟨t, rfl, hb2⟩
  obtain ⟨hc2, hf2, hz2⟩ := bcell hb2
  try simp at hz2
  have zb2 : w.heap.size ≤ w2.heap.size := by omega
  try (have z2_0 : w.heap.size < w2.heap.size := by omega)
  try (have z2_1 : w.heap.size + 1 < w2.heap.size := by omega)
  try (have z2_2 : w.heap.size + 1 + 1 < w2.heap.size := by omega)
  try (have z2_3 : w.heap.size + 1 + 1 + 1 < w2.heap.size := by omega)
  have b2 : Below w.heap.size w w2 := Below.trans (by (repeat (first | (with_reducible refine Below.drewN ?_) | (with_reducible refine Below.drew ?_) | ((with_reducible refine Below.alloc ?_ ?_ _); rotate_left; (first | omega | (simp <;> omega))) | ((with_reducible refine Below.setCell ?_ ?_ _); rotate_left; (first | omega | (simp <;> omega))) | (with_reducible exact Below.refl _ _) | (with_reducible assumption)))) (hb2.mono (by first | omega | (simp <;> omega)))
  have k2 : blkAt w2 w.heap.size = some (.cells #[.float .f32 ba, .float .f32 oc, .slice (some ⟨bl, o, none⟩) n c] 31) := (hb2.block w.heap.size (by simpa using z1_0)).trans ((hb1.block w.heap.size (by simp; omega)).trans ((blk_alloc_ne _ _ _ (by simp)).trans (blk_alloc _ _)))
  have r2 : blkAt w2 (w.heap.size + 1) = some (.cells #[.float .f32 0, .float .f32 0, .slice none 0 0] 31) := (hb2.block _ (by simpa using z1_1)).trans ((hb1.block _ (by simp)).trans (blk_alloc_at _ _ _ (by simp)))
  obtain ⟨t0, t1, t2, _, _, _⟩ := three_cells k2
  obtain ⟨r0, r1, r3, f0, f1, f3⟩ := three_cells r2
  clear hc1 hf1 hc2 hf2
  have D0 : w2.cell? ⟨bl, o + dg, none⟩ = some (.float .f32 (nth xs dg)) := by
    rw [b2.cell (p := ⟨bl, o + dg, none⟩) hbl]; exact HC.out dg hd
  have hbl2 : bl < w2.heap.size := by omega
  have HB2 := Lib.hid b2
  have T0 : TB w2 (w2.alloc (.cells #[.float .f32 (nv .f32 R t), .float .f32 oc, .slice none 0 0] 31)) w2.heap.size (nv .f32 R t) oc none 0 0 0 [] := TB.start (Below.alloc (Below.refl _ _) (Nat.le_refl _) _) (Nat.le_refl _) (blk_alloc _ _)
  go_wp2
  clear t0 t1 t2 r0 r1 r3 f0 f1 f3 hb1 hb2 K1 K2 b1 b2 D0
  go_loopw [51] (fun i wr => ∃ (k : Nat) (a : Option Addr) (c g : Nat), k ≤ n - dg ∧ i = .int .i64 k ∧ TB w2 wr w2.heap.size (nv .f32 R t) oc a k c g (tvP xs oc n dg k)) (fun i _ => (n - dg) - (intOf i).toNat)
  case atStart => exact ⟨0, _, _, _, by omega, rfl, T0⟩
  case round =>
    clear T0
    obtain ⟨k, a, c', g', hk, rfl, hT⟩ := hrel
    obtain ⟨e0, e1, e2, ef⟩ := hT.cells
    by_cases hlt : k < n - dg
    · have hlt2 : (k : Int) < (n : Int) - (dg : Int) := by omega
      have hlt3 : (k : Int) < ((n - dg : Nat) : Int) := by omega
      have hlt4 : (dg + k : Nat) < n := by omega
      have hdk : wr.cell? ⟨bl, o + dg + k, none⟩ = some (.float .f32 (nth xs (dg + k))) := by
        rw [hT.below.cell (p := ⟨bl, o + dg + k, none⟩) hbl2, HB2.out.cell (p := ⟨bl, o + dg + k, none⟩) hbl, Nat.add_assoc]
        exact HC.out _ hlt4
      have hE : fop .sub .f32 (nth xs (dg + k)) (nth xs dg) = tvD xs oc n dg k := by unfold tvD; rw [if_pos hlt4]
      have hn' := HN.out k (by omega)
      have hv : ∀ t, nv .f32 (tvD xs oc n dg k) t = tvD xs oc n dg k := fun t => nv_of t hn'
      have hdn : dn .f32 (tvD xs oc n dg k) = 0 := by unfold dn; rw [hn']; rfl
      have HP := Lib.hid (tvP_succ xs oc n dg k)
      obtain ⟨a', c2, g2, W', hap, ⟨hcW, hfW⟩, hT'⟩ := hT.step (by omega) ((wr.drewN 0).alloc (.cells #[.float .f32 (tvD xs oc n dg k)] 22)) (Below.alloc (below_drewN (Below.refl _ _) 0) (Nat.le_refl _) _) wr.heap.size _ (cell_blk (blk_alloc (wr.drewN 0) _) 0)
      generalize tvD xs oc n dg k = V at *
      clear hn'
      go_wp2
      go_roundw
      case rel => exact ⟨k + 1, a', c2, g2, by omega, by go_num, by rw [HP.out]; exact hT'⟩
      case measure => simp [intOf]; omega
    · obtain rfl : k = n - dg := by omega
      have kr : blkAt wr w.heap.size = some (.cells #[.float .f32 ba, .float .f32 oc, .slice (some ⟨bl, o, none⟩) n c] 31) := (hT.below.block w.heap.size (by omega)).trans k2
      obtain ⟨t0, t1, t2, _, _, _⟩ := three_cells kr
      go_wp2
      clear t0 t1 t2 e0 e1 e2 ef kr hlt hk
      go_loopw [69] (fun i wr => ∃ (k : Nat) (a : Option Addr) (c g : Nat), k ≤ dg ∧ i = .int .i64 k ∧ TB w2 wr w2.heap.size (nv .f32 R t) oc a (n - dg + k) c g (tvP xs oc n dg (n - dg + k))) (fun i _ => dg - (intOf i).toNat)
      case atStart => exact ⟨0, _, _, _, by omega, rfl, hT⟩
      case round =>
        clear hT
        obtain ⟨k, a, c', g', hk, rfl, hT⟩ := hrel
        obtain ⟨e0, e1, e2, ef⟩ := hT.cells
        have kr : blkAt wr w.heap.size = some (.cells #[.float .f32 ba, .float .f32 oc, .slice (some ⟨bl, o, none⟩) n c] 31) := (hT.below.block w.heap.size (by omega)).trans k2
        obtain ⟨t0, t1, t2, _, _, _⟩ := three_cells kr
        by_cases hlt : k < dg
        · have hlt2 : (k : Int) < (dg : Int) := by omega
          have hdk : wr.cell? ⟨bl, o + k, none⟩ = some (.float .f32 (nth xs k)) := by
            rw [hT.below.cell (p := ⟨bl, o + k, none⟩) hbl2, HB2.out.cell (p := ⟨bl, o + k, none⟩) hbl]
            exact HC.out _ (by omega)
          have hE : fop .sub .f32 (fop .add .f32 (nth xs k) oc) (nth xs dg) = tvD xs oc n dg (n - dg + k) := by unfold tvD; rw [if_neg (by omega), show dg + (n - dg + k) - n = k by omega]
          have hn' := HN.out (n - dg + k) (by omega)
          have hA := HA.out k (by omega)
          have hva : ∀ t, nv .f32 (fop .add .f32 (nth xs k) oc) t = fop .add .f32 (nth xs k) oc := fun t => nv_of t hA
          have hdna : dn .f32 (fop .add .f32 (nth xs k) oc) = 0 := by unfold dn; rw [hA]; rfl
          have hv : ∀ t, nv .f32 (tvD xs oc n dg (n - dg + k)) t = tvD xs oc n dg (n - dg + k) := fun t => nv_of t hn'
          have hdn : dn .f32 (tvD xs oc n dg (n - dg + k)) = 0 := by unfold dn; rw [hn']; rfl
          have HP := Lib.hid (tvP_succ xs oc n dg (n - dg + k))
          obtain ⟨a', c2, g2, W', hap, ⟨hcW, hfW⟩, hT'⟩ := hT.step (by omega) ((wr.drewN 0).alloc (.cells #[.float .f32 (tvD xs oc n dg (n - dg + k))] 22)) (Below.alloc (below_drewN (Below.refl _ _) 0) (Nat.le_refl _) _) wr.heap.size _ (cell_blk (blk_alloc (wr.drewN 0) _) 0)
          generalize tvD xs oc n dg (n - dg + k) = V at *
          generalize hS : fop .add .f32 (nth xs k) oc = S at *
          clear hn' hA
          go_wp2
          go_roundw
          case rel => exact ⟨k + 1, a', c2, g2, by omega, by go_num, by rw [← Nat.add_assoc, HP.out]; exact hT'⟩
          case measure => simp [intOf]; omega
        · obtain rfl : k = dg := by omega
          rw [show n - k + k = n by omega] at hT e2
          have HR := Lib.hid hT.room.of
          have HBT := Lib.hid hT.below
          have HO := Lib.hid hT.own
          have HL := Lib.hid (fun h => hT.room.lt h)
          have HCC := Lib.hid hT.room.le
          have KV := Lib.hid (c_ValidTuning (nv .f32 R t) oc a n c' _ wr hT.room.of.fs)
          rw [tunB_nv] at KV
          have rr : blkAt wr (w.heap.size + 1) = some (.cells #[.float .f32 0, .float .f32 0, .slice none 0 0] 31) := (hT.below.block _ (by omega)).trans r2
          have kk := hT.blk
          clear hT
          go_wp2_with fail
          refine (KV.out).mono ?_
          rintro e w3 ⟨rfl, hb3⟩
          have rr3 := (hb3.block _ (lt_of_blk rr)).trans rr
          have kk3 := (hb3.block _ (lt_of_blk kk)).trans kk
          obtain ⟨s0, s1, s2, s3, s4, s5⟩ := three_cells rr3
          obtain ⟨y0, y1, y2, _, _, _⟩ := three_cells kk3
          have hB3 : Below w.heap.size w w3 := (HB2.out.trans (HBT.out.mono HB2.out.size)).trans (hb3.mono (Nat.le_trans HB2.out.size HBT.out.size))
          cases hval : tunB R oc (tvP xs oc n k n) n
          · have HV := Lib.hid hval
            clear hval
            go_wp2
            refine bodyPost_ret (v := ?v) (by simp [results, Try.results66, go_sem, *] <;> rfl) rfl ?_
            exact TurnPost.no HV.out ⟨none, 0, 0, 0, 0, rfl, by (repeat (first | (with_reducible refine Below.drewN ?_) | (with_reducible refine Below.drew ?_) | ((with_reducible refine Below.alloc ?_ ?_ _); rotate_left; (first | omega | (simp <;> omega))) | ((with_reducible refine Below.setCell ?_ ?_ _); rotate_left; (first | omega | (simp <;> omega))) | (with_reducible exact Below.refl _ _) | (with_reducible assumption))), by omega, OF.nil _ _⟩
          · have HV := Lib.hid hval
            clear hval
            go_wp2
            refine bodyPost_ret (v := ?v2) (by simp [results, Try.results66, go_sem, *] <;> rfl) rfl ?_
            have hc0 : 0 < c' := by have := HCC.out; omega
            have ho := HO.out hc0
            have hg2 : g' ≠ w.heap.size + 1 := by omega
            have hR' := HR.out.below hb3 (Nat.le_refl _)
            exact TurnPost.yes HV.out ⟨a, c', g', t, 0, rfl, by (repeat (first | (with_reducible refine Below.drewN ?_) | (with_reducible refine Below.drew ?_) | ((with_reducible refine Below.alloc ?_ ?_ _); rotate_left; (first | omega | (simp <;> omega))) | ((with_reducible refine Below.setCell ?_ ?_ _); rotate_left; (first | omega | (simp <;> omega))) | (with_reducible exact Below.refl _ _) | (with_reducible assumption))), fun _ => ⟨by omega, by have := HL.out hc0; have := hb3.size; simp; omega⟩, by (repeat (first | (with_reducible assumption) | (with_reducible refine OF.draw ?_) | (with_reducible exact OF.made' (by simp) (by simp) (by omega)) | (with_reducible refine OF.alloc ?_ _) | ((with_reducible refine OF.setCell ?_ ?_ _); rotate_left; (first | omega | (simp <;> omega)))))⟩
end Go.Proofs.Ytdhiihmfgmempaa
