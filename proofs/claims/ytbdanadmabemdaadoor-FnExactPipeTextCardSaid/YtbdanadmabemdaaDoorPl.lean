
/-
What the laws of pipes share.
-/
import Derived.Test.YtbdanadmabemdaaDoorLw
import Derived.Test.YtbdanadmabemdaaDoorLd
import Derived.Test.YtbdanadmabemdaaDoorRp
namespace Go.Proofs.YtbdanadmabemdaaDoor
open Go Go.RowKit Fl
theorem ltb {w : World} {b : Nat} {o : Obj} (h : blkAt w b = some o) : b < w.heap.size := (Array.getElem?_eq_some_iff.1 h).1
theorem bUp {w a b : World} (h : Below w.heap.size w a) (k : Below a.heap.size a b) : Below w.heap.size w b := h.trans (k.mono h.size)
/-- a pipe in new memory with the same contents -/
def PipeW (n1 : Nat) (rs1 : List Rg) (n2 : Nat) (rs2 : List Rg) (n3 : Nat) (xs3 : List Nat) (g : Nat × Nat × Nat) (w : World) : Prop :=
  ∃ ss1 ss2, RS w (some ⟨g.1, 0, none⟩) n1 n1 ss1 ∧ RS w (some ⟨g.2.1, 0, none⟩) n2 n2 ss2 ∧ FS w (some ⟨g.2.2, 0, none⟩) n3 n3 xs3 ∧ sameC rs1 ss1 n1 ∧ sameC rs2 ss2 n2
theorem PipeW.grow {n1 : Nat} {rs1 : List Rg} {n2 : Nat} {rs2 : List Rg} {n3 : Nat} {xs3 : List Nat} {g : Nat × Nat × Nat} {w w' : World} (h : PipeW n1 rs1 n2 rs2 n3 xs3 g w) (hg : Grow w w') : PipeW n1 rs1 n2 rs2 n3 xs3 g w' := by
  obtain ⟨ss1, ss2, h1, h2, h3, h4, h5⟩ := h
  exact ⟨ss1, ss2, h1.below hg (Nat.le_refl _), h2.below hg (Nat.le_refl _), h3.below hg (Nat.le_refl _), h4, h5⟩
def RetFD (v : Nat) (code : Int) (w : World) (e : Ending) (w' : World) : Prop := ∃ t, e = .returned (.tuple #[.float .f64 (nv .f64 v t), .int .i64 code]) ∧ Below w.heap.size w w'
def RetFC (v : Nat) (code : Int) (w : World) (e : Ending) (w' : World) : Prop := ∃ t, e = .returned (.tuple #[.float .f32 (nv .f32 v t), .int .i64 code]) ∧ Below w.heap.size w w'
theorem c_sameFloatV (a t u : Nat) (w : World) : Calls Tryd.prog 32 #[.float .f64 (nv .f64 a t), .float .f64 (nv .f64 a u)] w (RetV (.bool true) w) :=
  (c_sameFloat a t u w).mono fun _ _ ⟨he, n, hn⟩ => ⟨he, hn ▸ below_drewN (Below.refl _ _) n⟩
end Go.Proofs.YtbdanadmabemdaaDoor
