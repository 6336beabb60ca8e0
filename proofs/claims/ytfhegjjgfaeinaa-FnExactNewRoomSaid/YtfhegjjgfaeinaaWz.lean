
/-
A slice in a row of its own stays where other rows are written.
-/
import Derived.Test.YtfhegjjgfaeinaaSn
import Derived.Test.YtfhegjjgfaeinaaLd
namespace Go.Proofs.Ytfhegjjgfaeinaa
open Go Go.RowKit Fl
theorem OF.wr0 {w w' : World} {g : Nat} {a : Option Addr} {n c : Nat} {xs : List Nat} {G : List Nat} (h : OF w g a n c xs) (hu : Wr G w w') (hg : 0 < n → g ∉ G) : OF w' g a n c xs :=
  ⟨h.fs.wr hu fun b o ha hn => by rw [h.blk b o ha hn]; exact hg hn, fun hn => by
    obtain ⟨o, ha, hf⟩ := h.own hn
    obtain ⟨b, o', ha', hbl, _⟩ := h.fs.at_ hn
    have : b = g := h.blk b o' ha' hn
    subst this
    exact ⟨o, ha, fun i hi => by rw [World.frozen?_of_block (hu.block b hbl (hg hn))]; exact hf i hi⟩⟩
theorem ltb {w : World} {b : Nat} {o : Obj} (h : blkAt w b = some o) : b < w.heap.size := (Array.getElem?_eq_some_iff.1 h).1
end Go.Proofs.Ytfhegjjgfaeinaa
