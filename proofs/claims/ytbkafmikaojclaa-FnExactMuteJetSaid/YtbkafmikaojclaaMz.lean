
/-
A ring is made silent: what is known behind the call.
-/
import Derived.Test.YtbkafmikaojclaaCp
namespace Go.Proofs.Ytbkafmikaojclaa
open Go Go.RowKit Fl
theorem cell_blk {w : World} {b : Nat} {cs : Array Value} {T : TypeId} {fr : Nat × Nat} (h : blkAt w b = some (.cells cs T fr)) (i : Nat) : w.cell? ⟨b, i, none⟩ = cs[i]? := by
  unfold blkAt at h
  unfold World.cell?
  rw [h]
  simp
theorem frozen_blk {w : World} {b : Nat} {cs : Array Value} {T : TypeId} (h : blkAt w b = some (.cells cs T (0, 0))) (i : Nat) : w.frozen? ⟨b, i, none⟩ = false := by
  unfold blkAt at h
  unfold World.frozen?
  rw [h]
  simp
theorem lt_of_blk {w : World} {b : Nat} {o : Obj} (h : blkAt w b = some o) : b < w.heap.size := (Array.getElem?_eq_some_iff.1 h).1
theorem c_muteB (b o : Nat) (a : Option Addr) (n c : Nat) (cs : Array Value) (T : TypeId) (w : World) (hb : blkAt w b = some (.cells cs T)) (hc : cs[o]? = some (.slice a n c)) (hn : n ≤ 1048576) :
    Calls Try.prog 109 #[.pointer (some ⟨b, o, none⟩)] w (fun e w' => e = .returned (.tuple #[]) ∧ blkAt w' b = some (.cells (cs.setIfInBounds o (.slice (some ⟨w.heap.size, 0, none⟩) n n)) T) ∧
      OF w' w.heap.size (some ⟨w.heap.size, 0, none⟩) n n (List.replicate n 0) ∧ w'.heap.size = w.heap.size + 1 ∧ Wr [b] w w') := by
  have hlt := lt_of_blk hb
  refine (c_mute b o a n c w hlt (by rw [cell_blk hb]; exact hc) (frozen_blk hb o) hn).mono ?_
  rintro e w' ⟨rfl, rfl⟩
  refine ⟨rfl, ?_, by (repeat (first | (with_reducible assumption) | (with_reducible refine OF.draw ?_) | (with_reducible exact OF.made' (by simp) (by simp) (by omega)) | (with_reducible refine OF.alloc ?_ _) | ((with_reducible refine OF.setCell ?_ ?_ _); rotate_left; (first | omega | (simp <;> omega))))), by simp, ?_⟩
  · rw [blk_alloc_ne _ _ _ (by simpa using hlt), blk_set_same0, hb]; rfl
  · exact ⟨rfl, rfl, rfl, by simp, fun k hk hnot => (Below.heap_alloc _ _ _ (by simpa using hk)).trans (Below.heap_setCell _ _ _ _ (by simpa using hnot))⟩
end Go.Proofs.Ytbkafmikaojclaa
