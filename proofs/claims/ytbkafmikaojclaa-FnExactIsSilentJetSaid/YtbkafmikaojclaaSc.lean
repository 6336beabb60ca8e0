
/-
Pairs of rings: the same, quiet.
-/
import Derived.Test.YtbkafmikaojclaaSb
import Derived.Test.YtbkafmikaojclaaQu
namespace Go.Proofs.Ytbkafmikaojclaa
open Go Go.RowKit Fl
theorem c_sameRings2 (W : World) (g g2 : Nat) (a1 : Option Addr) (n1 c1 : Nat) (xs1 : List Nat) (i1 : Int) (a2 : Option Addr) (n2 c2 : Nat) (xs2 : List Nat) (i2 : Int) (b1 : Option Addr) (m1 d1 : Nat) (ys1 : List Nat) (j1 : Int) (b2 : Option Addr) (m2 d2 : Nat) (ys2 : List Nat) (j2 : Int)
    (h_1 : FS W a1 n1 c1 xs1) (h_2 : FS W a2 n2 c2 xs2) (h_3 : FS W b1 m1 d1 ys1) (h_4 : FS W b2 m2 d2 ys2) {T T' : TypeId}
    (hg : W.heap[g]? = some (.cells #[.slice a1 n1 c1, .int .i64 i1, .slice a2 n2 c2, .int .i64 i2] T)) (hg2 : W.heap[g2]? = some (.cells #[.slice b1 m1 d1, .int .i64 j1, .slice b2 m2 d2, .int .i64 j2] T')) :
    Calls Try.prog 117 #[.slice (some ⟨g, 0, none⟩) 2 2, .slice (some ⟨g2, 0, none⟩) 2 2] W (RetB ((sameR n1 i1 xs1 m1 j1 ys1) && (sameR n2 i2 xs2 m2 j2 ys2)) W) :=
  c_l04SameRings g 0 g2 0 [⟨a1, n1, c1, xs1, i1⟩, ⟨a2, n2, c2, xs2, i2⟩] [⟨b1, m1, d1, ys1, j1⟩, ⟨b2, m2, d2, ys2, j2⟩] 2 2 2 W (by omega) (two _ ⟨cell_block hg _, cell_block hg _, h_1⟩ ⟨cell_block hg _, cell_block hg _, h_2⟩) (two _ ⟨cell_block hg2 _, cell_block hg2 _, h_3⟩ ⟨cell_block hg2 _, cell_block hg2 _, h_4⟩)
theorem c_zero2 (W : World) (g : Nat) (a1 : Option Addr) (n1 c1 : Nat) (xs1 : List Nat) (i1 : Int) (a2 : Option Addr) (n2 c2 : Nat) (xs2 : List Nat) (i2 : Int) (h_1 : FS W a1 n1 c1 xs1) (h_2 : FS W a2 n2 c2 xs2) {T : TypeId}
    (hg : W.heap[g]? = some (.cells #[.slice a1 n1 c1, .int .i64 i1, .slice a2 n2 c2, .int .i64 i2] T)) :
    Calls Try.prog 103 #[.slice (some ⟨g, 0, none⟩) 2 2] W (RetB ((zeroTo xs1 n1) && (zeroTo xs2 n2)) W) :=
  c_l04Zero g 0 [⟨a1, n1, c1, xs1, i1⟩, ⟨a2, n2, c2, xs2, i2⟩] 2 2 W (by omega) (two _ ⟨cell_block hg _, cell_block hg _, h_1⟩ ⟨cell_block hg _, cell_block hg _, h_2⟩)
end Go.Proofs.Ytbkafmikaojclaa
