
/-
What the laws of rooms share.
-/
import Derived.Test.YtfhegjjgfaeinaaYo
import Derived.Test.YtfhegjjgfaeinaaYs
import Derived.Test.YtfhegjjgfaeinaaYq
import Derived.Test.YtfhegjjgfaeinaaPl
namespace Go.Proofs.Ytfhegjjgfaeinaa
open Go Go.RowKit Fl
@[go_sem] theorem st_room (P : Program) (w : World) (T : TypeId) (zs : Array Value) (r : Rv) (h : zs.size = 47) : (bigStore ⟨w.heap.size, 0, none⟩ r.cells.toList).run P (w.alloc (.cells zs T)) = .ok () (w.alloc (.cells r.cells T)) := by
  have := st_cells P w T zs r.cells.toList (by rw [h, Array.length_toList, Rv.size]) (Rv.one r)
  rwa [Array.toArray_toList] at this
/-- a room in memory with the same contents -/
def RoomW (r : Rv) (v : Value) (w : World) : Prop := ∃ s : Rv, v = .agg s.cells ∧ RvM w s ∧ s.strip = r.strip
theorem RoomW.grow {r : Rv} {v : Value} {w w' : World} (h : RoomW r v w) (hg : Grow w w') : RoomW r v w' := by
  obtain ⟨s, h1, h2, h3⟩ := h
  exact ⟨s, h1, h2.below hg (Nat.le_refl _), h3⟩
end Go.Proofs.Ytfhegjjgfaeinaa
