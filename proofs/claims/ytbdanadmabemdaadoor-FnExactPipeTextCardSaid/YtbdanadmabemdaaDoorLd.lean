
/-
Whole structs are read out of blocks in one step.
-/
import Derived.Test.YtbdanadmabemdaaDoorMc
namespace Go.Proofs.YtbdanadmabemdaaDoor
open Go Go.RowKit Fl
def blkAt (W : World) (b : Nat) : Option Obj := W.heap[b]?
def objOk (n : Nat) : Option Obj → Bool
  | some (.cells cs _ _) => cs.size == n
  | _ => false
def objCells : Option Obj → Array Value
  | some (.cells cs _ _) => cs
  | _ => #[]
def adOk (n : Nat) (W : World) : Addr → Bool
  | ⟨b, 0, none⟩ => objOk n (blkAt W b)
  | _ => false
def adCells (W : World) : Addr → Array Value
  | ⟨b, 0, none⟩ => objCells (blkAt W b)
  | _ => #[]
def bigCells (ad : Addr) (n : Nat) : Sem (Array Value) := loadCellsFrom ad 0 n #[]
@[go_sem ↓ high] theorem big_cells (ad : Addr) (n : Nat) (_h : 8 < n) : loadCellsFrom ad 0 n #[] = bigCells ad n := rfl
@[go_sem] theorem ld_cells (P : Program) (ad : Addr) (n : Nat) (W : World) (h : adOk n W ad = true) : (bigCells ad n).run P W = .ok (adCells W ad) W := by
  unfold adOk at h
  split at h
  case h_2 => cases h
  case h_1 b =>
    unfold adCells
    cases hb : blkAt W b with
    | none => rw [hb] at h; cases h
    | some o =>
      cases o with
      | cells cs T fr =>
        rw [hb] at h
        simp only [objOk, beq_iff_eq] at h
        have hb2 := hb
        unfold blkAt at hb
        have := run_loadCells_list (P := P) W ⟨b, 0, none⟩ cs.toList (fun j v hj => by
          rw [Addr.add_mid]
          unfold World.cell?
          rw [hb]
          simp at hj ⊢
          exact hj)
        simp only [hb2, objCells]
        simpa [loadCells, bigCells, h] using this
      | _ => rw [hb] at h; cases h
attribute [go_sem] adOk adCells objOk objCells
@[go_sem] theorem blk_alloc (w : World) (o : Obj) : blkAt (w.alloc o) w.heap.size = some o := (MapKept.heap_alloc w o).1
@[go_sem] theorem blk_alloc_at (w : World) (o : Obj) (b : Nat) (h : b = w.heap.size) : blkAt (w.alloc o) b = some o := h ▸ (MapKept.heap_alloc w o).1
@[go_sem] theorem blk_alloc_ne (w : World) (o : Obj) (b : Nat) (h : b < w.heap.size) : blkAt (w.alloc o) b = blkAt w b := Below.heap_alloc w o b h
@[go_sem] theorem blk_drew (w : World) (n b : Nat) : blkAt (w.drewN n) b = blkAt w b := rfl
@[go_sem] theorem blk_set (w : World) (g o b : Nat) (v : Value) (h : b ≠ g) : blkAt (w.setCell ⟨g, o, none⟩ v) b = blkAt w b := Below.heap_setCell w ⟨g, o, none⟩ v b h
/-- a whole struct is written into the block that was made last -/
def writeAt : Array Value → Nat → List Value → Array Value
  | cs, _, [] => cs
  | cs, o, v :: r => writeAt (cs.setIfInBounds o v) (o + 1) r
theorem writeAt_size : ∀ (vs : List Value) (o : Nat) (cs : Array Value), (writeAt cs o vs).size = cs.size
  | [], _, _ => rfl
  | v :: r, o, cs => by rw [writeAt, writeAt_size r]; simp
theorem writeAt_get : ∀ (vs : List Value) (o : Nat) (cs : Array Value) (i : Nat), i < cs.size → (writeAt cs o vs)[i]? = if o ≤ i ∧ i < o + vs.length then vs[i - o]? else cs[i]?
  | [], o, cs, i, hi => by rw [writeAt, if_neg (by simp only [List.length_nil]; omega)]
  | v :: r, o, cs, i, hi => by
    rw [writeAt, writeAt_get r (o + 1) _ i (by simpa using hi)]
    by_cases h1 : o = i
    · subst h1
      rw [if_neg (by omega), if_pos (by simp), Array.getElem?_setIfInBounds_self_of_lt hi]
      simp
    · by_cases h2 : o + 1 ≤ i ∧ i < o + 1 + r.length
      · rw [if_pos h2, if_pos (by simp only [List.length_cons]; omega), show i - o = (i - (o + 1)) + 1 by omega, List.getElem?_cons_succ]
      · rw [if_neg h2, if_neg (by simp only [List.length_cons]; omega), Array.getElem?_setIfInBounds_ne h1]
theorem writeAt_all {cs : Array Value} {vs : List Value} (h : cs.size = vs.length) : writeAt cs 0 vs = vs.toArray := by
  apply Array.ext_getElem?
  intro i
  by_cases hi : i < cs.size
  · rw [writeAt_get _ _ _ _ hi, if_pos (by omega)]; simp
  · rw [Array.getElem?_eq_none (by rw [writeAt_size]; omega), Array.getElem?_eq_none (by simp only [List.size_toArray]; omega)]
theorem setCells_alloc (w : World) (T : TypeId) : ∀ (vs : List Value) (o : Nat) (cs : Array Value), (w.alloc (.cells cs T)).setCells w.heap.size o vs = w.alloc (.cells (writeAt cs o vs) T)
  | [], _, _ => rfl
  | v :: r, o, cs => by
    rw [World.setCells, writeAt, ← setCells_alloc w T r (o + 1)]
    congr 1
    first | exact World.setCell_alloc_new _ _ _ _ | exact World.setCell_alloc_new _ _ _ _ _
def bigStore (ad : Addr) (vs : List Value) : Sem Unit := storeCells ad vs
@[go_sem ↓ high] theorem big_store (ad : Addr) (vs : List Value) (_h : 8 < vs.length) : storeCells ad vs 0 = bigStore ad vs := rfl
@[go_sem] theorem st_cells (P : Program) (w : World) (T : TypeId) (zs : Array Value) (vs : List Value) (h : zs.size = vs.length) (h1 : vs.all (·.oneCell') = true) : (bigStore ⟨w.heap.size, 0, none⟩ vs).run P (w.alloc (.cells zs T)) = .ok () (w.alloc (.cells vs.toArray T)) := by
  have := run_storeCells_cells (P := P) w.heap.size 0 vs 0 (w.alloc (.cells zs T)) (fun j hj => by simp only [Nat.zero_add]; rw [cell_new, Array.getElem?_eq_getElem (by omega)]; rfl) (fun j hj => by
    have h : (w.alloc (.cells zs T)).heap[w.heap.size]? = some (.cells zs T) := (MapKept.heap_alloc w _).1
    unfold World.frozen?
    rw [h]
    simp) (fun v hv => List.all_eq_true.1 h1 v hv)
  unfold bigStore
  rw [this, setCells_alloc, writeAt_all h]
attribute [go_sem] Value.oneCell'
theorem bblk {W w1 : World} (hb : Below W.heap.size W w1) : ∀ b, b < W.heap.size → blkAt w1 b = blkAt W b := fun b h => hb.block b h
end Go.Proofs.YtbdanadmabemdaaDoor
