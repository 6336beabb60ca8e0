
/-
Contracts over slices of floats.
-/
import Derived.Test.YtmhgcflccaflpaaDf
import Derived.Test.YtmhgcflccaflpaaNf
namespace Go.Proofs.Ytmhgcflccaflpaa
open Go Go.RowKit Fl

theorem infoF : (Try.prog.info? 26).map (fun i => (i.zero, i.size, i.bytes)) = some (some (.float .f32 0), 1, 4) := by kernel_rfl
theorem made_zero (n : Nat) : madeCells #[Value.float .f32 0] n = arr (List.replicate n 0) := by
  apply Array.ext_getElem?
  intro i
  simp only [madeCells, arr]
  by_cases h : i < n
  · simp [h, fl, Nat.mod_one]
  · simp [h]
/-- what is left of a size -/
def szR (left n : Int) : Int := if left - n < 0 then -1 else left - n
/-- the first k are copied -/
def cop (xs : List Nat) (n k : Nat) : List Nat := xs.take k ++ List.replicate (n - k) 0
theorem cop_zero (xs : List Nat) (n : Nat) : cop xs n 0 = List.replicate n 0 := by simp [cop]
theorem cop_all (xs : List Nat) (n : Nat) (h : xs.length = n) : cop xs n n = xs := by simp [cop, ← h]
theorem cop_set (xs : List Nat) (n k : Nat) (h : xs.length = n) (hk : k < n) : (arr (cop xs n k)).setIfInBounds k (.float .f32 (nth xs k)) = arr (cop xs n (k + 1)) := by
  apply Array.ext_getElem?
  intro i
  rw [Array.getElem?_setIfInBounds]
  simp only [arr, cop, List.getElem?_toArray, List.getElem?_map, List.getElem?_append, List.getElem?_take, List.getElem?_replicate, List.length_take, List.size_toArray, List.length_map, List.length_append, List.length_replicate, nth, List.getD_eq_getElem?_getD]
  by_cases h1 : k = i
  · subst h1
    have e1 : k < min (k + 1) xs.length := by omega
    have e2 : k < min k xs.length + (n - k) := by omega
    have e3 : xs[k]? = some xs[k] := List.getElem?_eq_getElem (by omega)
    simp [e1, e2, e3, fl]
  · rw [if_neg h1]
    by_cases h2 : i < k
    · have e1 : i < min (k + 1) xs.length := by omega
      have e2 : i < min k xs.length := by omega
      have e3 : i < k + 1 := by omega
      simp [e1, e2, e3, h2]
    · have e1 : ¬ i < min (k + 1) xs.length := by omega
      have e2 : ¬ i < min k xs.length := by omega
      simp only [e1, e2, if_false]
      have e3 : (i - min k xs.length < n - k) ↔ (i - min (k + 1) xs.length < n - (k + 1)) := by omega
      simp only [e3]

/-- only the block g is written -/
structure Upd (g : Nat) (w w' : World) : Prop where
  os : w'.os = w.os
  tape : w'.tape = w.tape
  output : w'.output = w.output
  size : w'.heap.size = w.heap.size
  block : ∀ k, k ≠ g → w'.heap[k]? = w.heap[k]?
theorem Upd.refl (g : Nat) (w : World) : Upd g w w := ⟨rfl, rfl, rfl, rfl, fun _ _ => rfl⟩
theorem Upd.trans {g : Nat} {a b c : World} (h : Upd g a b) (k : Upd g b c) : Upd g a c :=
  ⟨k.os.trans h.os, k.tape.trans h.tape, k.output.trans h.output, k.size.trans h.size, fun i hi => (k.block i hi).trans (h.block i hi)⟩
theorem Upd.drewN {g n : Nat} {a w : World} (h : Upd g a w) : Upd g a (w.drewN n) := ⟨h.os, h.tape, h.output, h.size, h.block⟩
theorem Upd.setCell {g : Nat} {a w : World} (h : Upd g a w) (o : Nat) (u : Value) : Upd g a (w.setCell ⟨g, o, none⟩ u) :=
  ⟨h.os, h.tape, h.output, (World.size_setCell _ _ _).trans h.size, fun k hk => (Below.heap_setCell _ _ _ _ (by exact hk)).trans (h.block k hk)⟩
theorem Upd.below {g B : Nat} {a w : World} (h : Upd g a w) (hB : B ≤ g) : Below B a w := ⟨h.os, h.tape, h.output, by rw [h.size]; omega, fun k hk => h.block k (by omega)⟩
/-- a slice of floats in a block of its own -/
structure OF (w : World) (g : Nat) (a : Option Addr) (n c : Nat) (xs : List Nat) : Prop where
  fs : FS w a n c xs
  own : 0 < n → ∃ o, a = some ⟨g, o, none⟩ ∧ ∀ i, i < n → w.frozen? ⟨g, o + i, none⟩ = false
theorem OF.draw {w : World} {g : Nat} {a : Option Addr} {n c m : Nat} {xs : List Nat} (h : OF w g a n c xs) : OF (w.drewN m) g a n c xs := ⟨h.fs.draw, h.own⟩
theorem OF.below {w w' : World} {g : Nat} {a : Option Addr} {n c B : Nat} {xs : List Nat} (h : OF w g a n c xs) (hb : Below B w w') (hB : w.heap.size ≤ B) : OF w' g a n c xs :=
  ⟨h.fs.below hb hB, fun hn => by
    obtain ⟨o, ha, hf⟩ := h.own hn
    obtain ⟨b, o', ha', hbl, _⟩ := h.fs.at_ hn
    have : b = g := by rw [ha] at ha'; simp at ha'; exact ha'.1.symm
    subst this
    exact ⟨o, ha, fun i hi => by rw [hb.frozen (p := ⟨b, o + i, none⟩) (Nat.lt_of_lt_of_le hbl hB)]; exact hf i hi⟩⟩
/-- a slice elsewhere stays -/
theorem FS.upd {w w' : World} {a : Option Addr} {n c g : Nat} {xs : List Nat} (h : FS w a n c xs) (hu : Upd g w w') (hg : ∀ b o, a = some ⟨b, o, none⟩ → b ≠ g) : FS w' a n c xs :=
  ⟨h.len, h.cap, h.big, fun hn => by
    obtain ⟨b, o, ha, hbl, hc⟩ := h.at_ hn
    exact ⟨b, o, ha, by rw [hu.size]; exact hbl, fun i hi => (World.cell?_of_block (hu.block b (hg b o ha))).trans (hc i hi)⟩⟩
/-- the number z as a float -/
def mkF (z : Int) : Nat := floatOfInt .f32 z
/-- numbers from k on -/
def marks (k : Int) (n : Nat) : List Nat := (List.range n).map fun i : Nat => mkF (k + i)
theorem marks_len (k : Int) (n : Nat) : (marks k n).length = n := by simp [marks]
theorem marks_nth (k : Int) (n i : Nat) (h : i < n) : nth (marks k n) i = mkF (k + i) := by simp [marks, nth, h]
/-- the first j are numbered -/
structure MK (w0 w : World) (g o n j : Nat) (k : Int) (xs : List Nat) : Prop where
  upd : Upd g w0 w
  new : ∀ i : Nat, i < j → w.cell? ⟨g, o + i, none⟩ = some (.float .f32 (mkF (k + i)))
  old : ∀ i : Nat, j ≤ i → i < n → w.cell? ⟨g, o + i, none⟩ = some (.float .f32 (nth xs i))
  fro : ∀ i : Nat, i < n → w.frozen? ⟨g, o + i, none⟩ = false
theorem MK.step {w0 w : World} {g o n j : Nat} {k : Int} {xs : List Nat} (h : MK w0 w g o n j k xs) (hj : j < n) :
    MK w0 (w.setCell ⟨g, o + j, none⟩ (.float .f32 (mkF (k + (j : Int))))) g o n (j + 1) k xs := by
  refine ⟨h.upd.setCell _ _, ?_, ?_, ?_⟩
  · intro i hi
    by_cases e : i = j
    · subst e; exact World.cell?_setCell_same _ _ _ (h.old i (Nat.le_refl _) hj)
    · rw [World.cell?_setCell_other _ _ _ _ (by intro hh; simp at hh <;> omega)]; exact h.new i (by omega)
  · intro i hi hn
    rw [World.cell?_setCell_other _ _ _ _ (by intro hh; simp at hh <;> omega)]; exact h.old i (by omega) hn
  · intro i hi
    rw [World.frozen?_setCell]; exact h.fro i hi
end Go.Proofs.Ytmhgcflccaflpaa
