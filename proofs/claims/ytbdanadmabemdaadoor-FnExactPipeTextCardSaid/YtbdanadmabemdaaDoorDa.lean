
/-
Contracts over arrays of floats.
-/
import Derived.Test.YtbdanadmabemdaaDoorCb
import Derived.Test.YtbdanadmabemdaaDoorLo
namespace Go.Proofs.YtbdanadmabemdaaDoor
open Go Go.RowKit Fl

/-- the value is returned; what was there is there -/
def RetV (v : Value) (w : World) (e : Ending) (w' : World) : Prop := e = .returned v ∧ Below w.heap.size w w'
theorem Below.drewN {B : Nat} {a w : World} {n : Nat} (h : Below B a w) : Below B a (w.drewN n) := ⟨h.os, h.tape, h.output, h.size, h.block⟩
/-- what is taken of each -/
def spT (a b c d y : Nat) : Nat := fop .quo .f32 (fop .mul .f32 y (fop .add .f32 (fop .add .f32 (fop .add .f32 a b) c) d)) 1073741824
def Ret4 (a b c d : Nat) (w : World) (e : Ending) (w' : World) : Prop := ∃ t0 t1 t2 t3, e = .returned (.agg #[.float .f32 (nv .f32 a t0), .float .f32 (nv .f32 b t1), .float .f32 (nv .f32 c t2), .float .f32 (nv .f32 d t3)]) ∧ Below w.heap.size w w'
theorem lx_callB {P : Program} {f : FuncId} {args : Array Value} {w : World} {n : Nat} {b : Bool} (h : Calls P f args (w.drewN n) (RetB b (w.drewN n))) :
    Calls P f args (w.drewN n) (fun e w'' => ∃ v, OneV (.bool b) v ∧ e = .returned v ∧ ∃ m, w'' = w.drewN m) :=
  h.mono fun _ _ ⟨he, m, hm⟩ => ⟨_, OneV.mk _, he, n + m, by rw [hm, World.drewN_drewN]⟩
theorem lx_callB2 {P : Program} {f : FuncId} {args : Array Value} {w : World} {n k : Nat} {b : Bool} (h : Calls P f args (w.drewN (k + n)) (RetB b (w.drewN (k + n)))) :
    Calls P f args (w.drewN (k + n)) (fun e w'' => ∃ v, OneV (.bool b) v ∧ e = .returned v ∧ ∃ m, w'' = w.drewN (k + m)) :=
  h.mono fun _ _ ⟨he, m, hm⟩ => ⟨_, OneV.mk _, he, n + m, by rw [hm, World.drewN_drewN, Nat.add_assoc]⟩
def fl (b : Nat) : Value := .float .f32 b
def arr (xs : List Nat) : Array Value := (xs.map fl).toArray
theorem arr_size (xs : List Nat) : (arr xs).size = xs.length := by simp [arr]
def nth (xs : List Nat) (i : Nat) : Nat := xs.getD i 0
theorem arr_get (xs : List Nat) (i : Nat) (h : i < xs.length) : (arr xs)[i]? = some (.float .f32 (nth xs i)) := by
  simp [arr, h, fl, nth]
theorem cell_new (w : World) (cs : Array Value) (T : TypeId) (i : Nat) : (w.alloc (.cells cs T)).cell? ⟨w.heap.size, i, none⟩ = cs[i]? := by
  have h : (w.alloc (.cells cs T)).heap[w.heap.size]? = some (.cells cs T) := (MapKept.heap_alloc w _).1
  unfold World.cell?
  rw [h]
  rfl
theorem cell_old (w : World) (o : Obj) (b i : Nat) (hb : b < w.heap.size) : (w.alloc o).cell? ⟨b, i, none⟩ = w.cell? ⟨b, i, none⟩ :=
  World.cell?_of_block (Below.heap_alloc w o b hb)
/-- alike, up to the not-a-number -/
def Alk (xs ys : List Nat) : Prop := ∀ i, up (nth ys i) = up (nth xs i)

theorem Alk.four {a0 a1 a2 a3 b0 b1 b2 b3 : Nat} (h0 : up b0 = up a0) (h1 : up b1 = up a1) (h2 : up b2 = up a2) (h3 : up b3 = up a3) : Alk [a0, a1, a2, a3] [b0, b1, b2, b3] := by
  intro i
  match i with
  | 0 => exact h0
  | 1 => exact h1
  | 2 => exact h2
  | 3 => exact h3
  | n + 4 => rfl
theorem bcell {W w1 : World} (hb : Below W.heap.size W w1) : (∀ b o, b < W.heap.size → w1.cell? ⟨b, o, none⟩ = W.cell? ⟨b, o, none⟩) ∧ (∀ b o, b < W.heap.size → w1.frozen? ⟨b, o, none⟩ = W.frozen? ⟨b, o, none⟩) ∧ W.heap.size ≤ w1.heap.size :=
  ⟨fun b o h => hb.cell (p := ⟨b, o, none⟩) h, fun b o h => hb.frozen (p := ⟨b, o, none⟩) h, hb.size⟩
end Go.Proofs.YtbdanadmabemdaaDoor
