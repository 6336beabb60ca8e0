
/-
Slices and rings in blocks of their own: what is written, and what stays.
-/
import Derived.Test.YtbdanadmabemdaaDoorSl
namespace Go.Proofs.YtbdanadmabemdaaDoor
open Go Go.RowKit Fl

theorem up_nv2 (b t u : Nat) : up (nv .f32 b t) = up (nv .f32 b u) := by rw [up_nv, up_nv]
theorem Alk.refl (xs : List Nat) : Alk xs xs := fun _ => rfl
/-- of the blocks that are there, only those of G are written -/
structure Wr (G : List Nat) (w w' : World) : Prop where
  os : w'.os = w.os
  tape : w'.tape = w.tape
  output : w'.output = w.output
  size : w.heap.size ≤ w'.heap.size
  block : ∀ k, k < w.heap.size → k ∉ G → w'.heap[k]? = w.heap[k]?
theorem Wr.refl (G : List Nat) (w : World) : Wr G w w := ⟨rfl, rfl, rfl, Nat.le_refl _, fun _ _ _ => rfl⟩
theorem Wr.trans {G H : List Nat} {a b c : World} (h : Wr G a b) (k : Wr H b c) : Wr (G ++ H) a c :=
  ⟨k.os.trans h.os, k.tape.trans h.tape, k.output.trans h.output, Nat.le_trans h.size k.size, fun i hi hn => by
    rw [List.mem_append, not_or] at hn
    exact (k.block i (Nat.lt_of_lt_of_le hi h.size) hn.2).trans (h.block i hi hn.1)⟩
theorem Wr.of_below {G : List Nat} {w w' : World} (h : Below w.heap.size w w') : Wr G w w' := ⟨h.os, h.tape, h.output, h.size, fun k hk _ => h.block k hk⟩
theorem Wr.of_upd {g : Nat} {w w' : World} (h : Upd g w w') : Wr [g] w w' := ⟨h.os, h.tape, h.output, Nat.le_of_eq h.size.symm, fun k _ hn => h.block k (by simpa using hn)⟩
theorem Wr.below {G : List Nat} {B : Nat} {w w' : World} (h : Wr G w w') (hB : B ≤ w.heap.size) (hG : ∀ g, g ∈ G → B ≤ g) : Below B w w' :=
  ⟨h.os, h.tape, h.output, h.size, fun k hk => h.block k (Nat.lt_of_lt_of_le hk hB) fun hm => absurd (hG k hm) (by omega)⟩
theorem Wr.cell {G : List Nat} {w w' : World} (h : Wr G w w') (b : Nat) (hb : b < w.heap.size) (hg : b ∉ G) : (∀ o, w'.cell? ⟨b, o, none⟩ = w.cell? ⟨b, o, none⟩) ∧ (∀ o, w'.frozen? ⟨b, o, none⟩ = w.frozen? ⟨b, o, none⟩) ∧ w.heap.size ≤ w'.heap.size :=
  ⟨fun _ => World.cell?_of_block (h.block b hb hg), fun _ => World.frozen?_of_block (h.block b hb hg), h.size⟩
theorem Wr.none {w w' : World} (h : Wr [] w w') : Below w.heap.size w w' := h.below (Nat.le_refl _) (fun _ hm => by cases hm)
theorem Wr.mono {G H : List Nat} {w w' : World} (h : Wr G w w') (hs : ∀ g, g ∈ G → g ∈ H) : Wr H w w' :=
  ⟨h.os, h.tape, h.output, h.size, fun k hk hn => h.block k hk fun hm => hn (hs k hm)⟩
theorem FS.wr {w w' : World} {a : Option Addr} {n c : Nat} {xs : List Nat} {G : List Nat} (h : FS w a n c xs) (hu : Wr G w w') (hg : ∀ b o, a = some ⟨b, o, none⟩ → 0 < n → b ∉ G) : FS w' a n c xs :=
  ⟨h.len, h.cap, h.big, fun hn => by
    obtain ⟨b, o, ha, hbl, hc⟩ := h.at_ hn
    exact ⟨b, o, ha, Nat.lt_of_lt_of_le hbl hu.size, fun i hi => (World.cell?_of_block (hu.block b hbl (hg b o ha hn))).trans (hc i hi)⟩⟩
theorem OF.blk {w : World} {g : Nat} {a : Option Addr} {n c : Nat} {xs : List Nat} (h : OF w g a n c xs) : ∀ b o, a = some ⟨b, o, none⟩ → 0 < n → b = g := fun b o ha hn => by
  obtain ⟨o', ha', _⟩ := h.own hn
  rw [ha] at ha'; simp at ha'; exact ha'.1
theorem OF.wr {w w' : World} {g : Nat} {a : Option Addr} {n c : Nat} {xs : List Nat} {G : List Nat} (h : OF w g a n c xs) (hu : Wr G w w') (hg : g ∉ G) : OF w' g a n c xs :=
  ⟨h.fs.wr hu fun b o ha hn => by rw [h.blk b o ha hn]; exact hg, fun hn => by
    obtain ⟨o, ha, hf⟩ := h.own hn
    obtain ⟨b, o', ha', hbl, _⟩ := h.fs.at_ hn
    have : b = g := h.blk b o' ha' hn
    subst this
    exact ⟨o, ha, fun i hi => by rw [World.frozen?_of_block (hu.block b hbl hg)]; exact hf i hi⟩⟩
/-- the block of a slice that is not empty -/
def gl (n g : Nat) : List Nat := if n = 0 then [] else [g]
theorem mem_gl (n g k : Nat) : k ∈ gl n g ↔ 0 < n ∧ k = g := by
  unfold gl
  by_cases h : n = 0
  · rw [if_pos h]; simp; omega
  · rw [if_neg h]; simp; omega
theorem OF.setCell {w : World} {g : Nat} {a : Option Addr} {n c : Nat} {xs : List Nat} (h : OF w g a n c xs) {p : Addr} (hp : p.block ≠ g) (u : Value) : OF (w.setCell p u) g a n c xs :=
  h.wr (G := [p.block]) ⟨rfl, rfl, rfl, by simp [World.setCell], fun k _ hk => Below.heap_setCell _ _ _ _ (by simpa using hk)⟩ (by simpa using Ne.symm hp)
theorem FS.alloc {w : World} {a : Option Addr} {n c : Nat} {xs : List Nat} (h : FS w a n c xs) (o : Obj) : FS (w.alloc o) a n c xs :=
  h.below ((Below.refl _ _).alloc (Nat.le_refl _) _) (Nat.le_refl _)
theorem OF.alloc {w : World} {g : Nat} {a : Option Addr} {n c : Nat} {xs : List Nat} (h : OF w g a n c xs) (o : Obj) : OF (w.alloc o) g a n c xs :=
  h.below ((Below.refl _ _).alloc (Nat.le_refl _) _) (Nat.le_refl _)
theorem FS.nil (w : World) : FS w none 0 0 [] := ⟨rfl, Nat.le_refl _, by omega, fun h => absurd h (by omega)⟩
theorem OF.nil (w : World) (g : Nat) : OF w g none 0 0 [] := ⟨FS.nil w, fun h => absurd h (by omega)⟩
/-- a block that has just been made -/
theorem OF.made (w : World) (n : Nat) (xs : List Nat) (h : xs.length = n) (hn : n ≤ 9223372036854775807) (T : TypeId) : OF (w.alloc (.cells (arr xs) T)) w.heap.size (some ⟨w.heap.size, 0, none⟩) n n xs :=
  ⟨⟨h, Nat.le_refl _, hn, fun _ => ⟨_, _, rfl, by simp, fun i hi => by rw [Nat.zero_add, cell_new, arr_get _ _ (by omega)]⟩⟩, fun _ => ⟨0, rfl, fun i _ => by
    have h : (w.alloc (.cells (arr xs) T)).heap[w.heap.size]? = some (.cells (arr xs) T) := (MapKept.heap_alloc w _).1
    unfold World.frozen?
    rw [h]
    simp⟩⟩
theorem OF.made' {W : World} {g n : Nat} {xs : List Nat} {T : TypeId} (hg : g = W.heap.size) (h : xs.length = n) (hn : n ≤ 9223372036854775807) : OF (W.alloc (.cells (arr xs) T)) g (some ⟨g, 0, none⟩) n n xs := by
  subst hg; exact OF.made W n xs h hn T
theorem OF.old {w w' : World} {g : Nat} {a : Option Addr} {n c : Nat} {xs : List Nat} (h : OF w g a n c xs) (hb : Below w.heap.size w w') : OF w' g a n c xs := h.below hb (Nat.le_refl _)

/-! ### the laws' own helpers over a slice and over a ring -/
theorem c_szFloat32S_ok (a : Option Addr) (n c : Nat) (left : Int) (w : World) (h0 : 0 ≤ left) (h1 : left ≤ 1048576) (hn : n ≤ 9223372036854775807) (h : (n : Int) ≤ left) :
    Calls Tryd.prog 37 #[.slice a n c, .int .i64 left] w (RetV (.int .i64 (left - n)) w) :=
  (c_szFloat32S a n c left w h0 h1 hn).mono fun e w' ⟨he, hw⟩ => ⟨by rw [he]; unfold szR; rw [if_neg (by omega)], by obtain ⟨m, rfl⟩ := hw; exact below_drewN (Below.refl _ _) _⟩
theorem c_szFloat32S_no (a : Option Addr) (n c : Nat) (left : Int) (w : World) (h0 : 0 ≤ left) (h1 : left ≤ 1048576) (hn : n ≤ 9223372036854775807) (h : left < (n : Int)) :
    Calls Tryd.prog 37 #[.slice a n c, .int .i64 left] w (RetV (.int .i64 (-1)) w) :=
  (c_szFloat32S a n c left w h0 h1 hn).mono fun e w' ⟨he, hw⟩ => ⟨by rw [he]; unfold szR; rw [if_pos (by omega)], by obtain ⟨m, rfl⟩ := hw; exact below_drewN (Below.refl _ _) _⟩
theorem c_toFloat32S' (a : Option Addr) (n c : Nat) (xs : List Nat) (w : World) (h : FS w a n c xs) (hn : n ≤ 1048576) :
    Calls Tryd.prog 41 #[.slice a n c] w (fun e w' => ∃ g, e = .returned (.slice (some ⟨g, 0, none⟩) n n) ∧ Below w.heap.size w w' ∧ w.heap.size ≤ g ∧ g < w'.heap.size ∧ OF w' g (some ⟨g, 0, none⟩) n n xs) :=
  (c_toFloat32S a n c xs w h hn).mono fun e w' ⟨he, hw⟩ => ⟨w.heap.size, he, by rw [hw]; exact (Below.refl _ _).alloc (Nat.le_refl _) _, Nat.le_refl _, by rw [hw]; simp, by rw [hw]; exact OF.made _ _ _ h.len (by omega) _⟩
theorem c_eqFloat32S' (a b : Option Addr) (n c d : Nat) (xs ys : List Nat) (w : World) (ha : FS w a n c xs) (hb : FS w b n d ys) (h : Alk xs ys) :
    Calls Tryd.prog 46 #[.slice a n c, .slice b n d] w (RetV (.bool true) w) :=
  (c_eqFloat32S a b n c d xs ys w ha hb h).mono fun e w' ⟨he, hw⟩ => ⟨he, by obtain ⟨m, rfl⟩ := hw; exact below_drewN (Below.refl _ _) _⟩
theorem c_szRing_ok (a1 : Option Addr) (n1 c1 : Nat) (i1 : Int) (left : Int) (w : World) (h0 : 0 ≤ left) (h1 : left ≤ 1048576) (m1 : n1 ≤ 9223372036854775807) (h : (n1 : Int) ≤ left) :
    Calls Tryd.prog 21 #[.agg #[.slice a1 n1 c1, .int .i64 i1], .int .i64 left] w (RetV (.int .i64 (left - n1)) w) := by
  go_enter Tryd.func21, Tryd.ntmps21
  go_wp2_with fail
  refine (c_szFloat32S_ok a1 n1 c1 (left) _ (by omega) (by omega) m1 (by omega)).mono ?_
  rintro e w1 ⟨rfl, hb1⟩
  obtain ⟨hc1, hf1, hz1⟩ := bcell hb1
  have g1 : ¬ (left - n1) < 0 := by omega
  try simp at hz1
  have zb1 : w.heap.size ≤ w1.heap.size := by omega
  try (have z1_0 : w.heap.size < w1.heap.size := by omega)
  try (have z1_1 : w.heap.size + 1 < w1.heap.size := by omega)
  try (have z1_2 : w.heap.size + 1 + 1 < w1.heap.size := by omega)
  try (have z1_3 : w.heap.size + 1 + 1 + 1 < w1.heap.size := by omega)
  go_wp2
  go_ret
  have b1 : Below w.heap.size w w1 := Below.trans (by (repeat (first | (with_reducible refine Below.drewN ?_) | (with_reducible refine Below.drew ?_) | ((with_reducible refine Below.alloc ?_ ?_ _); rotate_left; (first | omega | (simp <;> omega))) | ((with_reducible refine Below.setCell ?_ ?_ _); rotate_left; (first | omega | (simp <;> omega))) | (with_reducible exact Below.refl _ _) | (with_reducible assumption)))) (hb1.mono (by first | omega | (simp <;> omega)))
  exact ⟨rfl, b1⟩
theorem c_szRing_no (a1 : Option Addr) (n1 c1 : Nat) (i1 : Int) (left : Int) (w : World) (h0 : 0 ≤ left) (h1 : left ≤ 1048576) (m1 : n1 ≤ 9223372036854775807) (h : left < (n1 : Int)) :
    Calls Tryd.prog 21 #[.agg #[.slice a1 n1 c1, .int .i64 i1], .int .i64 left] w (RetV (.int .i64 (-1)) w) := by
  go_enter Tryd.func21, Tryd.ntmps21
  go_wp2_with fail
  refine (c_szFloat32S_no a1 n1 c1 (left) _ (by omega) (by omega) m1 (by omega)).mono ?_
  rintro e w1 ⟨rfl, hb1⟩
  obtain ⟨hc1, hf1, hz1⟩ := bcell hb1
  go_wp2
  go_ret
  have b1 : Below w.heap.size w w1 := Below.trans (by (repeat (first | (with_reducible refine Below.drewN ?_) | (with_reducible refine Below.drew ?_) | ((with_reducible refine Below.alloc ?_ ?_ _); rotate_left; (first | omega | (simp <;> omega))) | ((with_reducible refine Below.setCell ?_ ?_ _); rotate_left; (first | omega | (simp <;> omega))) | (with_reducible exact Below.refl _ _) | (with_reducible assumption)))) (hb1.mono (by first | omega | (simp <;> omega)))
  exact ⟨rfl, b1⟩
theorem c_toRing' (a1 : Option Addr) (n1 c1 : Nat) (xs1 : List Nat) (i1 : Int) (w : World) (h1 : FS w a1 n1 c1 xs1) (m1 : n1 ≤ 1048576) :
    Calls Tryd.prog 24 #[.agg #[.slice a1 n1 c1, .int .i64 i1]] w (fun e w' => ∃ g1, e = .returned (.agg #[.slice (some ⟨g1, 0, none⟩) n1 n1, .int .i64 i1]) ∧ Below w.heap.size w w' ∧ w.heap.size ≤ g1 ∧ g1 < w'.heap.size ∧ OF w' g1 (some ⟨g1, 0, none⟩) n1 n1 xs1) := by
  have H1 := Lib.hid h1
  clear h1
  go_enter Tryd.func24, Tryd.ntmps24
  go_wp2_with fail
  refine (c_toFloat32S' a1 n1 c1 xs1 _ (FS.below (B := w.heap.size) H1.out (by (repeat (first | (with_reducible refine Below.drewN ?_) | (with_reducible refine Below.drew ?_) | ((with_reducible refine Below.alloc ?_ ?_ _); rotate_left; (first | omega | (simp <;> omega))) | ((with_reducible refine Below.setCell ?_ ?_ _); rotate_left; (first | omega | (simp <;> omega))) | (with_reducible exact Below.refl _ _) | (with_reducible assumption)))) (Nat.le_refl _)) m1).mono ?_
  rintro e w1 ⟨g1, rfl, hb1, hg1, hs1, of1_1⟩
  obtain ⟨hc1, hf1, hz1⟩ := bcell hb1
  try simp at hz1
  have zb1 : w.heap.size ≤ w1.heap.size := by omega
  try (have z1_0 : w.heap.size < w1.heap.size := by omega)
  try (have z1_1 : w.heap.size + 1 < w1.heap.size := by omega)
  try (have z1_2 : w.heap.size + 1 + 1 < w1.heap.size := by omega)
  try (have z1_3 : w.heap.size + 1 + 1 + 1 < w1.heap.size := by omega)
  have b1 : Below w.heap.size w w1 := Below.trans (by (repeat (first | (with_reducible refine Below.drewN ?_) | (with_reducible refine Below.drew ?_) | ((with_reducible refine Below.alloc ?_ ?_ _); rotate_left; (first | omega | (simp <;> omega))) | ((with_reducible refine Below.setCell ?_ ?_ _); rotate_left; (first | omega | (simp <;> omega))) | (with_reducible exact Below.refl _ _) | (with_reducible assumption)))) (hb1.mono (by first | omega | (simp <;> omega)))
  try simp at hg1
  have L1_1 : g1 < w1.heap.size := by first | assumption | omega
  go_wp2
  refine bodyPost_ret (v := ?v) (by simp [results, Tryd.results24, go_sem, *] <;> rfl) rfl ?_
  refine ⟨g1, rfl, by (repeat (first | (with_reducible refine Below.drewN ?_) | (with_reducible refine Below.drew ?_) | ((with_reducible refine Below.alloc ?_ ?_ _); rotate_left; (first | omega | (simp <;> omega))) | ((with_reducible refine Below.setCell ?_ ?_ _); rotate_left; (first | omega | (simp <;> omega))) | (with_reducible exact Below.refl _ _) | (with_reducible assumption))), by omega, by (simp <;> omega), by (repeat (first | (with_reducible assumption) | (with_reducible refine OF.draw ?_) | (with_reducible exact OF.made' (by simp) (by simp) (by omega)) | (with_reducible refine OF.alloc ?_ _) | ((with_reducible refine OF.setCell ?_ ?_ _); rotate_left; (first | omega | (simp <;> omega)))))⟩
theorem c_eqRing' (a1 d1 : Option Addr) (n1 c1 e1 : Nat) (xs1 ys1 : List Nat) (i1 : Int) (w : World) (h1 : FS w a1 n1 c1 xs1) (j1 : FS w d1 n1 e1 ys1) (l1 : Alk xs1 ys1) :
    Calls Tryd.prog 30 #[.agg #[.slice a1 n1 c1, .int .i64 i1], .agg #[.slice d1 n1 e1, .int .i64 i1]] w (RetV (.bool true) w) := by
  have H1 := Lib.hid h1
  have J1 := Lib.hid j1
  have L1 := Lib.hid l1
  clear h1 j1 l1
  go_enter Tryd.func30, Tryd.ntmps30
  go_wp2_with (go_at_call 32; refine (c_sameFloat _ _ _ _).mono ?_; rintro e w' ⟨rfl, n3, rfl⟩)
  refine (c_eqFloat32S' _ _ _ _ _ _ _ _ (FS.below (B := w.heap.size) H1.out (by (repeat (first | (with_reducible refine Below.drewN ?_) | (with_reducible refine Below.drew ?_) | ((with_reducible refine Below.alloc ?_ ?_ _); rotate_left; (first | omega | (simp <;> omega))) | ((with_reducible refine Below.setCell ?_ ?_ _); rotate_left; (first | omega | (simp <;> omega))) | (with_reducible exact Below.refl _ _) | (with_reducible assumption)))) (Nat.le_refl _)) (FS.below (B := w.heap.size) J1.out (by (repeat (first | (with_reducible refine Below.drewN ?_) | (with_reducible refine Below.drew ?_) | ((with_reducible refine Below.alloc ?_ ?_ _); rotate_left; (first | omega | (simp <;> omega))) | ((with_reducible refine Below.setCell ?_ ?_ _); rotate_left; (first | omega | (simp <;> omega))) | (with_reducible exact Below.refl _ _) | (with_reducible assumption)))) (Nat.le_refl _)) L1.out).mono ?_
  rintro e w1 ⟨rfl, hb1⟩
  obtain ⟨hc1, hf1, hz1⟩ := bcell hb1
  try simp at hz1
  have zb1 : w.heap.size ≤ w1.heap.size := by omega
  try (have z1_0 : w.heap.size < w1.heap.size := by omega)
  try (have z1_1 : w.heap.size + 1 < w1.heap.size := by omega)
  try (have z1_2 : w.heap.size + 1 + 1 < w1.heap.size := by omega)
  try (have z1_3 : w.heap.size + 1 + 1 + 1 < w1.heap.size := by omega)
  have b1 : Below w.heap.size w w1 := Below.trans (by (repeat (first | (with_reducible refine Below.drewN ?_) | (with_reducible refine Below.drew ?_) | ((with_reducible refine Below.alloc ?_ ?_ _); rotate_left; (first | omega | (simp <;> omega))) | ((with_reducible refine Below.setCell ?_ ?_ _); rotate_left; (first | omega | (simp <;> omega))) | (with_reducible exact Below.refl _ _) | (with_reducible assumption)))) (hb1.mono (by first | omega | (simp <;> omega)))
  go_wp2_with (go_at_call 32; refine (c_sameFloat _ _ _ _).mono ?_; rintro e w' ⟨rfl, n3, rfl⟩)
  go_ret
  exact ⟨rfl, by (repeat (first | (with_reducible refine Below.drewN ?_) | (with_reducible refine Below.drew ?_) | ((with_reducible refine Below.alloc ?_ ?_ _); rotate_left; (first | omega | (simp <;> omega))) | ((with_reducible refine Below.setCell ?_ ?_ _); rotate_left; (first | omega | (simp <;> omega))) | (with_reducible exact Below.refl _ _) | (with_reducible assumption)))⟩
def NewRing (n1 : Nat) (xs1 : List Nat) (i1 : Int) (code : Int) (w : World) (e : Ending) (w' : World) : Prop :=
  ∃ (a1 : Option Addr) (c1 g1  : Nat), e = .returned (.tuple #[.agg #[.slice a1 n1 c1, .int .i64 i1], .int .i64 code]) ∧ Below w.heap.size w w' ∧ (0 < n1 → w.heap.size ≤ g1 ∧ g1 < w'.heap.size) ∧ OF w' g1 a1 n1 c1 xs1


end Go.Proofs.YtbdanadmabemdaaDoor
