
/-
Is a filter still.
-/
import Derived.Test.YtdhiihmfgmempaaDf
namespace Go.Proofs.Ytdhiihmfgmempaa
open Go Go.RowKit Fl

def zeroB (a : Nat) : Bool := FloatKind.f32.format.order a 0 == some .eq
def stillB (s0 s1 : Nat) : Bool := zeroB s0 && zeroB s1
def filV (k : Int) (c0 c1 c2 s0 s1 : Nat) : Value := .agg #[.int .i64 k, .float .f32 c0, .float .f32 c1, .float .f32 c2, .float .f32 s0, .float .f32 s1]
def RetBI (b : Bool) (i : Int) (w : World) (e : Ending) (w' : World) : Prop := e = .returned (.tuple #[.bool b, .int .i64 i]) ∧ Below w.heap.size w w'
end Go.Proofs.Ytdhiihmfgmempaa
