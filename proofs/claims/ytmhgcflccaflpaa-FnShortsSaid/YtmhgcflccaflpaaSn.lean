
/-
Slices and rings in blocks of their own: what is written, and what stays.
-/
import Derived.Test.YtmhgcflccaflpaaSl
namespace Go.Proofs.Ytmhgcflccaflpaa
open Go Go.RowKit Fl

theorem up_nv2 (b t u : Nat) : up (nv .f32 b t) = up (nv .f32 b u) := by rw [up_nv, up_nv]
theorem Alk.refl (xs : List Nat) : Alk xs xs := fun _ => rfl
/-- of the blocks that are there, only those of G are written -/
structure Wr (G : List Nat) (w w' : World) : Prop where
  os : w'.os = w.os
  tape : w'.tape = w.tape
  output : w'.output = w.output
  size : w.heap.size ≤ w'.heap.size
  block : ∀ k, k < w.heap.size → k ∉ G → w'.heap[k]? = w.heap[k]?
theorem Wr.refl (G : List Nat) (w : World) : Wr G w w := ⟨rfl, rfl, rfl, Nat.le_refl _, fun _ _ _ => rfl⟩
theorem Wr.trans {G H : List Nat} {a b c : World} (h : Wr G a b) (k : Wr H b c) : Wr (G ++ H) a c :=
  ⟨k.os.trans h.os, k.tape.trans h.tape, k.output.trans h.output, Nat.le_trans h.size k.size, fun i hi hn => by
    rw [List.mem_append, not_or] at hn
    exact (k.block i (Nat.lt_of_lt_of_le hi h.size) hn.2).trans (h.block i hi hn.1)⟩
theorem Wr.of_below {G : List Nat} {w w' : World} (h : Below w.heap.size w w') : Wr G w w' := ⟨h.os, h.tape, h.output, h.size, fun k hk _ => h.block k hk⟩
theorem Wr.of_upd {g : Nat} {w w' : World} (h : Upd g w w') : Wr [g] w w' := ⟨h.os, h.tape, h.output, Nat.le_of_eq h.size.symm, fun k _ hn => h.block k (by simpa using hn)⟩
theorem Wr.below {G : List Nat} {B : Nat} {w w' : World} (h : Wr G w w') (hB : B ≤ w.heap.size) (hG : ∀ g, g ∈ G → B ≤ g) : Below B w w' :=
  ⟨h.os, h.tape, h.output, h.size, fun k hk => h.block k (Nat.lt_of_lt_of_le hk hB) fun hm => absurd (hG k hm) (by omega)⟩
theorem Wr.cell {G : List Nat} {w w' : World} (h : Wr G w w') (b : Nat) (hb : b < w.heap.size) (hg : b ∉ G) : (∀ o, w'.cell? ⟨b, o, none⟩ = w.cell? ⟨b, o, none⟩) ∧ (∀ o, w'.frozen? ⟨b, o, none⟩ = w.frozen? ⟨b, o, none⟩) ∧ w.heap.size ≤ w'.heap.size :=
  ⟨fun _ => World.cell?_of_block (h.block b hb hg), fun _ => World.frozen?_of_block (h.block b hb hg), h.size⟩
theorem Wr.none {w w' : World} (h : Wr [] w w') : Below w.heap.size w w' := h.below (Nat.le_refl _) (fun _ hm => by cases hm)
theorem Wr.mono {G H : List Nat} {w w' : World} (h : Wr G w w') (hs : ∀ g, g ∈ G → g ∈ H) : Wr H w w' :=
  ⟨h.os, h.tape, h.output, h.size, fun k hk hn => h.block k hk fun hm => hn (hs k hm)⟩
theorem FS.wr {w w' : World} {a : Option Addr} {n c : Nat} {xs : List Nat} {G : List Nat} (h : FS w a n c xs) (hu : Wr G w w') (hg : ∀ b o, a = some ⟨b, o, none⟩ → 0 < n → b ∉ G) : FS w' a n c xs :=
  ⟨h.len, h.cap, h.big, fun hn => by
    obtain ⟨b, o, ha, hbl, hc⟩ := h.at_ hn
    exact ⟨b, o, ha, Nat.lt_of_lt_of_le hbl hu.size, fun i hi => (World.cell?_of_block (hu.block b hbl (hg b o ha hn))).trans (hc i hi)⟩⟩
theorem OF.blk {w : World} {g : Nat} {a : Option Addr} {n c : Nat} {xs : List Nat} (h : OF w g a n c xs) : ∀ b o, a = some ⟨b, o, none⟩ → 0 < n → b = g := fun b o ha hn => by
  obtain ⟨o', ha', _⟩ := h.own hn
  rw [ha] at ha'; simp at ha'; exact ha'.1
theorem OF.wr {w w' : World} {g : Nat} {a : Option Addr} {n c : Nat} {xs : List Nat} {G : List Nat} (h : OF w g a n c xs) (hu : Wr G w w') (hg : g ∉ G) : OF w' g a n c xs :=
  ⟨h.fs.wr hu fun b o ha hn => by rw [h.blk b o ha hn]; exact hg, fun hn => by
    obtain ⟨o, ha, hf⟩ := h.own hn
    obtain ⟨b, o', ha', hbl, _⟩ := h.fs.at_ hn
    have : b = g := h.blk b o' ha' hn
    subst this
    exact ⟨o, ha, fun i hi => by rw [World.frozen?_of_block (hu.block b hbl hg)]; exact hf i hi⟩⟩
/-- the block of a slice that is not empty -/
def gl (n g : Nat) : List Nat := if n = 0 then [] else [g]
theorem mem_gl (n g k : Nat) : k ∈ gl n g ↔ 0 < n ∧ k = g := by
  unfold gl
  by_cases h : n = 0
  · rw [if_pos h]; simp; omega
  · rw [if_neg h]; simp; omega
theorem OF.setCell {w : World} {g : Nat} {a : Option Addr} {n c : Nat} {xs : List Nat} (h : OF w g a n c xs) {p : Addr} (hp : p.block ≠ g) (u : Value) : OF (w.setCell p u) g a n c xs :=
  h.wr (G := [p.block]) ⟨rfl, rfl, rfl, by simp [World.setCell], fun k _ hk => Below.heap_setCell _ _ _ _ (by simpa using hk)⟩ (by simpa using Ne.symm hp)
theorem FS.alloc {w : World} {a : Option Addr} {n c : Nat} {xs : List Nat} (h : FS w a n c xs) (o : Obj) : FS (w.alloc o) a n c xs :=
  h.below ((Below.refl _ _).alloc (Nat.le_refl _) _) (Nat.le_refl _)
theorem OF.alloc {w : World} {g : Nat} {a : Option Addr} {n c : Nat} {xs : List Nat} (h : OF w g a n c xs) (o : Obj) : OF (w.alloc o) g a n c xs :=
  h.below ((Below.refl _ _).alloc (Nat.le_refl _) _) (Nat.le_refl _)
theorem FS.nil (w : World) : FS w none 0 0 [] := ⟨rfl, Nat.le_refl _, by omega, fun h => absurd h (by omega)⟩
theorem OF.nil (w : World) (g : Nat) : OF w g none 0 0 [] := ⟨FS.nil w, fun h => absurd h (by omega)⟩
/-- a block that has just been made -/
theorem OF.made (w : World) (n : Nat) (xs : List Nat) (h : xs.length = n) (hn : n ≤ 9223372036854775807) (T : TypeId) : OF (w.alloc (.cells (arr xs) T)) w.heap.size (some ⟨w.heap.size, 0, none⟩) n n xs :=
  ⟨⟨h, Nat.le_refl _, hn, fun _ => ⟨_, _, rfl, by simp, fun i hi => by rw [Nat.zero_add, cell_new, arr_get _ _ (by omega)]⟩⟩, fun _ => ⟨0, rfl, fun i _ => by
    have h : (w.alloc (.cells (arr xs) T)).heap[w.heap.size]? = some (.cells (arr xs) T) := (MapKept.heap_alloc w _).1
    unfold World.frozen?
    rw [h]
    simp⟩⟩
theorem OF.made' {W : World} {g n : Nat} {xs : List Nat} {T : TypeId} (hg : g = W.heap.size) (h : xs.length = n) (hn : n ≤ 9223372036854775807) : OF (W.alloc (.cells (arr xs) T)) g (some ⟨g, 0, none⟩) n n xs := by
  subst hg; exact OF.made W n xs h hn T
theorem OF.old {w w' : World} {g : Nat} {a : Option Addr} {n c : Nat} {xs : List Nat} (h : OF w g a n c xs) (hb : Below w.heap.size w w') : OF w' g a n c xs := h.below hb (Nat.le_refl _)

/-! ### the laws' own helpers over a slice and over a ring -/
def NewRing (n1 : Nat) (xs1 : List Nat) (i1 : Int) (code : Int) (w : World) (e : Ending) (w' : World) : Prop :=
  ∃ (a1 : Option Addr) (c1 g1  : Nat), e = .returned (.tuple #[.agg #[.slice a1 n1 c1, .int .i64 i1], .int .i64 code]) ∧ Below w.heap.size w w' ∧ (0 < n1 → w.heap.size ≤ g1 ∧ g1 < w'.heap.size) ∧ OF w' g1 a1 n1 c1 xs1


end Go.Proofs.Ytmhgcflccaflpaa
