
/-
Whole structs in memory: their cells, one under the other.
-/
import Derived.Test.YtbdanadmabemdaaDoorFe
import Derived.Deep.MidRow
import Derived.Deep.Cut
namespace Go.Proofs.YtbdanadmabemdaaDoor
open Go Go.RowKit Fl
theorem range_nil (w : World) (b o : Nat) : w.rangeAt b o [] := fun j v h => by simp at h
theorem range_cons {w : World} {b o : Nat} {v : Value} {vs : List Value} (h : w.cell? ⟨b, o, none⟩ = some v) (h' : w.rangeAt b (o + 1) vs) : w.rangeAt b o (v :: vs) := fun j u hj => by
  cases j with
  | zero => simp at hj; subst hj; exact h
  | succ j => rw [List.getElem?_cons_succ] at hj; have := h' j u hj; rw [show o + (j + 1) = o + 1 + j by omega]; exact this
theorem there_of {w : World} {b o : Nat} {vs : List Value} (h : w.rangeAt b o vs) (hf : ∀ o, w.frozen? ⟨b, o, none⟩ = false) : w.there b o vs.length := fun j hj => by
  have := h j vs[j] (List.getElem?_eq_getElem hj)
  exact ⟨by rw [this]; rfl, hf _⟩
theorem wr_setCells (b : Nat) : ∀ (vs : List Value) (o : Nat) (w : World), Wr [b] w (w.setCells b o vs)
  | [], _, w => Wr.refl _ _
  | v :: r, o, w => by
    have h1 : Wr [b] w (w.setCell ⟨b, o, none⟩ v) := ⟨rfl, rfl, rfl, by simp [World.setCell], fun k _ hk => Below.heap_setCell _ _ _ _ (by simpa using hk)⟩
    exact (h1.trans (wr_setCells b r (o + 1) _)).mono (by simp)
theorem results_cell {P : Program} {fn : Func} {tmps : Array Value} {a : Tmp} {t : TypeId} {p : Addr} {v : Value} {w : World} (hr : fn.results = #[.cell a t]) (ha : tmps.getD a undef = .pointer (some p)) (h : (loadVar t p).run P w = .ok v w) : (results fn tmps).run P w = .ok v w := by
  have ha' : tmps[a]?.getD undef = .pointer (some p) := by simpa using ha
  unfold results
  rw [hr]
  simp [asAddr, ha', h]
theorem wp_named {P : Program} {C : Code} {Q : Exit → Act → World → Prop} {a : Act} {w : World} (h : ∀ W, W = w → C.wp P Q a W) : C.wp P Q a w := h w rfl
end Go.Proofs.YtbdanadmabemdaaDoor
