
/-
Loads and stores of many cells in the midst of a block that is known whole.
-/
import Derived.Test.YtfhegjjgfaeinaaYr
import Derived.Test.YtfhegjjgfaeinaaLe
namespace Go.Proofs.Ytfhegjjgfaeinaa
open Go Go.RowKit Fl
def objHas (o n : Nat) : Option Obj → Bool
  | some (.cells cs _ _) => decide (o + n ≤ cs.size)
  | _ => false
def objCut (o n : Nat) : Option Obj → Array Value
  | some (.cells cs _ _) => cs.extract o (o + n)
  | _ => #[]
def adHas (n : Nat) (W : World) : Addr → Bool
  | ⟨b, o, none⟩ => objHas o n (blkAt W b)
  | _ => false
def adCut (n : Nat) (W : World) : Addr → Array Value
  | ⟨b, o, none⟩ => objCut o n (blkAt W b)
  | _ => #[]
@[go_sem] theorem ld_mid (P : Program) (ad : Addr) (n : Nat) (W : World) (h : adHas n W ad = true) : (bigCells ad n).run P W = .ok (adCut n W ad) W := by
  obtain ⟨b, o, s⟩ := ad
  cases s with
  | some _ => cases h
  | none =>
    have h : objHas o n (blkAt W b) = true := h
    show _ = Result.ok (objCut o n (blkAt W b)) W
    cases hb : blkAt W b with
    | none => rw [hb] at h; cases h
    | some ob =>
      cases ob with
      | cells cs T fr =>
        rw [hb] at h
        simp only [objHas, decide_eq_true_eq] at h
        simp only [objCut]
        have hb2 : W.heap[b]? = some (.cells cs T fr) := hb
        have hlen : ((cs.extract o (o + n)).toList).length = n := by simp; omega
        have := run_loadCells_list (P := P) W ⟨b, o, none⟩ (cs.extract o (o + n)).toList (fun j v hj => by
          rw [Addr.add_mid]
          unfold World.cell?
          rw [hb2]
          rw [Array.getElem?_toList, Array.getElem?_extract] at hj
          simp
          split at hj
          · exact hj
          · cases hj)
        rw [hlen] at this
        rw [Array.toArray_toList] at this
        exact this
      | _ => rw [hb] at h; cases h
attribute [go_sem] adHas adCut objHas objCut
def objFreeM (o n : Nat) : Option Obj → Bool
  | some (.cells cs _ (0, 0)) => decide (o + n ≤ cs.size)
  | _ => false
@[go_sem] theorem st_mid (P : Program) (W : World) (b o : Nat) (vs : List Value) (h : objFreeM o vs.length (blkAt W b) = true) (h1 : vs.all (·.oneCell') = true) : (bigStore ⟨b, o, none⟩ vs).run P W = .ok () (W.setCells b o vs) := by
  cases hb : blkAt W b with
  | none => rw [hb] at h; cases h
  | some ob =>
    cases ob with
    | cells cs T fr =>
      rw [hb] at h
      obtain ⟨f1, f2⟩ := fr
      have hf : f1 = 0 ∧ f2 = 0 := by
        unfold objFreeM at h
        split at h
        · rename_i e; cases e; exact ⟨rfl, rfl⟩
        · cases h
      obtain ⟨rfl, rfl⟩ := hf
      simp only [objFreeM, decide_eq_true_eq] at h
      have hb2 : W.heap[b]? = some (.cells cs T) := hb
      have := run_storeCells_cells (P := P) b o vs 0 W (fun j hj => by rw [cell_block' hb2, Array.getElem?_eq_getElem (by omega)]; rfl) (fun j hj => blk_free hb2 _) (fun v hv => List.all_eq_true.1 h1 v hv)
      simpa [bigStore] using this
    | _ => rw [hb] at h; cases h
attribute [go_sem] objFreeM
theorem blk_sets {w : World} {g : Nat} {cs : Array Value} {T : TypeId} (o : Nat) (vs : List Value) (h : w.heap[g]? = some (.cells cs T)) : (w.setCells g o vs).heap[g]? = some (.cells (writeAt cs o vs) T) := by
  have := blk_setCells0 g vs o w
  unfold blkAt at this
  rw [this, h]
end Go.Proofs.Ytfhegjjgfaeinaa
