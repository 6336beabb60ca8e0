
/-
Whole structs are written into blocks in one step; the last operations of a region that draws its order.
-/
import Derived.Test.YtbdanadmabemdaaDoorLd
import Derived.Test.YtbdanadmabemdaaDoorLp
namespace Go.Proofs.YtbdanadmabemdaaDoor
open Go Go.RowKit Fl
def objSet (o : Nat) (v : Value) : Option Obj → Option Obj
  | some (.cells cs T fr) => some (.cells (cs.setIfInBounds o v) T fr)
  | x => x
def objPut (vs : List Value) : Option Obj → Option Obj
  | some (.cells cs T fr) => some (.cells (writeAt cs 0 vs) T fr)
  | x => x
def objFree (n : Nat) : Option Obj → Bool
  | some (.cells cs _ fr) => cs.size == n && fr == (0, 0)
  | _ => false
attribute [go_sem] objSet objPut objFree
@[go_sem] theorem writeAt_all' (cs : Array Value) (vs : List Value) (h : cs.size = vs.length) : writeAt cs 0 vs = vs.toArray := writeAt_all h
theorem blk_set_same0 (w : World) (g o : Nat) (v : Value) : blkAt (w.setCell ⟨g, o, none⟩ v) g = objSet o v (blkAt w g) := by
  unfold blkAt World.setCell
  cases h : w.heap[g]? with
  | none => simp [objSet]; exact Array.getElem?_eq_none_iff.1 h
  | some x =>
    have hlt : g < w.heap.size := (Array.getElem?_eq_some_iff.1 h).1
    cases x <;> simp [objSet, Array.getElem?_modify, h]
@[go_sem] theorem blk_set_same (w : World) (g b o : Nat) (v : Value) (h : b = g) : blkAt (w.setCell ⟨g, o, none⟩ v) b = objSet o v (blkAt w b) := h ▸ blk_set_same0 w b o v
theorem blk_setCells0 (g : Nat) : ∀ (vs : List Value) (o : Nat) (w : World), blkAt (w.setCells g o vs) g = (match blkAt w g with | some (.cells cs T fr) => some (.cells (writeAt cs o vs) T fr) | x => x)
  | [], o, w => by
    rw [World.setCells]
    cases h : blkAt w g with
    | none => rfl
    | some x => cases x <;> rfl
  | v :: r, o, w => by
    rw [World.setCells, blk_setCells0 g r, blk_set_same0]
    cases h : blkAt w g with
    | none => rfl
    | some x => cases x <;> rfl
@[go_sem] theorem blk_setCells_same (w : World) (g b : Nat) (vs : List Value) (h : b = g) : blkAt (w.setCells g 0 vs) b = objPut vs (blkAt w b) := by
  subst h
  rw [blk_setCells0]
  cases h : blkAt w b with
  | none => rfl
  | some x => cases x <;> rfl
@[go_sem] theorem blk_setCells_ne (w : World) (g b : Nat) (vs : List Value) (hlt : b < w.heap.size) (h : b ≠ g) : blkAt (w.setCells g 0 vs) b = blkAt w b := (wr_setCells g vs 0 w).block b hlt (by simpa using h)
@[go_sem] theorem size_setCells (w : World) (g o : Nat) (vs : List Value) : (w.setCells g o vs).heap.size = w.heap.size := by
  induction vs generalizing o w with
  | nil => rfl
  | cons v r ih => rw [World.setCells, ih, World.size_setCell]
@[go_sem] theorem st_cells_any (P : Program) (W : World) (b : Nat) (vs : List Value) (h : objFree vs.length (blkAt W b) = true) (h1 : vs.all (·.oneCell') = true) : (bigStore ⟨b, 0, none⟩ vs).run P W = .ok () (W.setCells b 0 vs) := by
  cases hb : blkAt W b with
  | none => rw [hb] at h; cases h
  | some x =>
    cases x with
    | cells cs T fr =>
      rw [hb] at h
      simp only [objFree, Bool.and_eq_true, beq_iff_eq] at h
      obtain ⟨h2, rfl⟩ := h
      unfold blkAt at hb
      have := run_storeCells_cells (P := P) b 0 vs 0 W (fun j hj => by
        simp only [Nat.zero_add]
        unfold World.cell?
        rw [hb]
        simp
        omega) (fun j hj => by
        unfold World.frozen?
        rw [hb]
        simp) (fun v hv => List.all_eq_true.1 h1 v hv)
      simpa [bigStore] using this
    | _ => rw [hb] at h; cases h
theorem Below.setCells {B : Nat} {w W : World} (h : Below B w W) {b : Nat} (hb : B ≤ b) (vs : List Value) : Below B w (W.setCells b 0 vs) :=
  have k := wr_setCells b vs 0 W
  ⟨k.os.trans h.os, k.tape.trans h.tape, k.output.trans h.output, Nat.le_trans h.size k.size, fun i hi => by
    refine Eq.trans ?_ (h.block i hi)
    by_cases hlt : i < W.heap.size
    · exact k.block i hlt (by simp; omega)
    · exact (Array.getElem?_eq_none (by rw [size_setCells]; omega)).trans (Array.getElem?_eq_none (by omega)).symm⟩
theorem OF.setCells {w : World} {g b n c : Nat} {a : Option Addr} {xs : List Nat} (h : OF w g a n c xs) (hb : g ≠ b) (vs : List Value) : OF (w.setCells b 0 vs) g a n c xs := h.wr (wr_setCells b vs 0 w) (by simpa using hb)

def stepUpon (K : Act → World → Prop) (o : Oper) (a : Act) : Result Next → Prop
  | .ok (.value u) w' => K (a.put o.dst u) w'
  | .ok .skip w' => K (a.put o.dst undef) w'
  | _ => False
attribute [go_sem] stepUpon
theorem wpAny_step {P : Program} {ops : Array Oper} {md : Region.Mode} {Q : Exit → Act → World → Prop} {n i : Nat} {l : Array Bool} {o : Oper} {a : Act} {w : World} (hr : Region.ready md ops l = [i]) (ho : ops[i]? = some o) (hg : o.guard = none)
    (h : ∀ K : Act → World → Prop, (∀ a' w', wpAny P md ops Q n (l.setIfInBounds i true) a' w' → K a' w') → stepUpon K o a ((execOp a.eval o).run P w)) : wpAny P md ops Q (n + 1) l a w := by
  refine wpAny_one hr ho hg ?_
  have h1 := h _ (fun _ _ h => h)
  unfold Oper.wp
  generalize (execOp a.eval o).run P w = r at h1
  cases r with
  | halt x w' => exact h1.elim
  | ok m w' => cases m <;> first | exact h1 | exact h1.elim
end Go.Proofs.YtbdanadmabemdaaDoor
