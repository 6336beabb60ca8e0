/-
  No cell of these rows narrows 'for every input' (looked for: loops, veiled, ifaces, maps, wideKeys, modest, calm, conditions, laid).
  DERIVED. THE GIVEN ROWS OF THIS SEAT. 10 by the template 'for every input the law returns true; each argument reads behind the call as it read before'; 0 by the template 'total and deterministic' (their statements: YtfhegjjgfaeinaaTotals.lean).
  GIVEN WITH THE SEED: the statements are not yours to turn. If you find one false, say at which input.
  Laid BY PROGRAM, IN A SANDBOX (cutbox-rows.mjs): the forced cells as the released guide's own fill.sh prints them over the translation b56ccd2878b128f3… (all of the seat's roots in one cut). By AI agents, Wed Nov 11 2026. No macro, syntax, notation, axiom, sorry.
-/
import Derived.Test.YtfhegjjgfaeinaaChecked
import GoSem.Claim
import GoSem.ClaimJoined
import GoSem.ClaimMapViews
import Derived.JoinedTies
import Derived.KernelRfl
namespace Go.Proofs.Ytfhegjjgfaeinaa
/- THE CELL 'sum', in the pinned program and in every row, IS THE sha256 OF THE DUMP (.gsa) THAT YtfhegjjgfaeinaaProg.lean LOADS. Nothing in Lean hashes anything: it is a label: what it is worth is what the hold of that sum in a sandbox is worth. -/
noncomputable def Try.pinned : Pinned := { name := "ytfhegjjgfaeinaa", sum := "b56ccd2878b128f36c73b0ef80060a11331110ada564ef152f628b27887397de", checked := Try.checked }
namespace Rows
def none {H : Type} : Left H := { results := [], args := [] }

/-- 'laws.FnExactValidPipe': WHATEVER THE INPUT: true; the input reads as it did. -/
def fnExactValidPipeSpec : ChangeSpec := { name := "fnExactValidPipe", fn := fun _ => fun
  | [d] => { results := [.lit (.bool true)], args := [d] }
  | _ => none }
def fnExactValidPipeRow : OpenClaim := { program := "ytfhegjjgfaeinaa", sum := "b56ccd2878b128f36c73b0ef80060a11331110ada564ef152f628b27887397de", func := "loop.example/g01173/laws.FnExactValidPipe", spec := "fnExactValidPipe", inPlace := ["math.Float32bits"], unfollowed := true, recurses := true, apart := false }
def FnExactValidPipeSaid : Prop := fnExactValidPipeRow.holds Try.pinned (OpenSpec.ofChange fnExactValidPipeSpec)

/-- ITS FALSE NEIGHBOUR: 'it returns false'. Refute it at one input. -/
def fnExactValidPipeWrong : ChangeSpec := { name := "fnExactValidPipe", fn := fun _ => fun
  | [d] => { results := [.lit (.bool false)], args := [d] }
  | _ => none }
def FnExactValidPipeWrongFalsely : Prop := fnExactValidPipeRow.holds Try.pinned (OpenSpec.ofChange fnExactValidPipeWrong)

/-- 'laws.FnExactNewRoom': WHATEVER THE INPUT: true; the input reads as it did. -/
def fnExactNewRoomSpec : ChangeSpec := { name := "fnExactNewRoom", fn := fun _ => fun
  | [d1, d2, d3, d4] => { results := [.lit (.bool true)], args := [d1, d2, d3, d4] }
  | _ => none }
def fnExactNewRoomRow : OpenClaim := { program := "ytfhegjjgfaeinaa", sum := "b56ccd2878b128f36c73b0ef80060a11331110ada564ef152f628b27887397de", func := "loop.example/g01173/laws.FnExactNewRoom", spec := "fnExactNewRoom", apart := false }
def FnExactNewRoomSaid : Prop := fnExactNewRoomRow.holds Try.pinned (OpenSpec.ofChange fnExactNewRoomSpec)

/-- ITS FALSE NEIGHBOUR: 'it returns false'. Refute it at one input. -/
def fnExactNewRoomWrong : ChangeSpec := { name := "fnExactNewRoom", fn := fun _ => fun
  | [d1, d2, d3, d4] => { results := [.lit (.bool false)], args := [d1, d2, d3, d4] }
  | _ => none }
def FnExactNewRoomWrongFalsely : Prop := fnExactNewRoomRow.holds Try.pinned (OpenSpec.ofChange fnExactNewRoomWrong)

/-- 'laws.FnExactLengthOfPipe': WHATEVER THE INPUT: true; the input reads as it did. -/
def fnExactLengthOfPipeSpec : ChangeSpec := { name := "fnExactLengthOfPipe", fn := fun _ => fun
  | [d] => { results := [.lit (.bool true)], args := [d] }
  | _ => none }
def fnExactLengthOfPipeRow : OpenClaim := { program := "ytfhegjjgfaeinaa", sum := "b56ccd2878b128f36c73b0ef80060a11331110ada564ef152f628b27887397de", func := "loop.example/g01173/laws.FnExactLengthOfPipe", spec := "fnExactLengthOfPipe", inPlace := ["math.Float32bits"], unfollowed := true, recurses := true, apart := false }
def FnExactLengthOfPipeSaid : Prop := fnExactLengthOfPipeRow.holds Try.pinned (OpenSpec.ofChange fnExactLengthOfPipeSpec)

/-- ITS FALSE NEIGHBOUR: 'it returns false'. Refute it at one input. -/
def fnExactLengthOfPipeWrong : ChangeSpec := { name := "fnExactLengthOfPipe", fn := fun _ => fun
  | [d] => { results := [.lit (.bool false)], args := [d] }
  | _ => none }
def FnExactLengthOfPipeWrongFalsely : Prop := fnExactLengthOfPipeRow.holds Try.pinned (OpenSpec.ofChange fnExactLengthOfPipeWrong)

/-- 'laws.FnExactEnergyOfPipe': WHATEVER THE INPUT: true; the input reads as it did. -/
def fnExactEnergyOfPipeSpec : ChangeSpec := { name := "fnExactEnergyOfPipe", fn := fun _ => fun
  | [d] => { results := [.lit (.bool true)], args := [d] }
  | _ => none }
def fnExactEnergyOfPipeRow : OpenClaim := { program := "ytfhegjjgfaeinaa", sum := "b56ccd2878b128f36c73b0ef80060a11331110ada564ef152f628b27887397de", func := "loop.example/g01173/laws.FnExactEnergyOfPipe", spec := "fnExactEnergyOfPipe", inPlace := ["math.Float32bits"], unfollowed := true, recurses := true, apart := false }
def FnExactEnergyOfPipeSaid : Prop := fnExactEnergyOfPipeRow.holds Try.pinned (OpenSpec.ofChange fnExactEnergyOfPipeSpec)

/-- ITS FALSE NEIGHBOUR: 'it returns false'. Refute it at one input. -/
def fnExactEnergyOfPipeWrong : ChangeSpec := { name := "fnExactEnergyOfPipe", fn := fun _ => fun
  | [d] => { results := [.lit (.bool false)], args := [d] }
  | _ => none }
def FnExactEnergyOfPipeWrongFalsely : Prop := fnExactEnergyOfPipeRow.holds Try.pinned (OpenSpec.ofChange fnExactEnergyOfPipeWrong)

/-- 'laws.FnExactPressureAt': WHATEVER THE INPUT: true; the input reads as it did. -/
def fnExactPressureAtSpec : ChangeSpec := { name := "fnExactPressureAt", fn := fun _ => fun
  | [d1, d2, d3] => { results := [.lit (.bool true)], args := [d1, d2, d3] }
  | _ => none }
def fnExactPressureAtRow : OpenClaim := { program := "ytfhegjjgfaeinaa", sum := "b56ccd2878b128f36c73b0ef80060a11331110ada564ef152f628b27887397de", func := "loop.example/g01173/laws.FnExactPressureAt", spec := "fnExactPressureAt", inPlace := ["math.Float32bits"], unfollowed := true, recurses := true, apart := false }
def FnExactPressureAtSaid : Prop := fnExactPressureAtRow.holds Try.pinned (OpenSpec.ofChange fnExactPressureAtSpec)

/-- ITS FALSE NEIGHBOUR: 'it returns false'. Refute it at one input. -/
def fnExactPressureAtWrong : ChangeSpec := { name := "fnExactPressureAt", fn := fun _ => fun
  | [d1, d2, d3] => { results := [.lit (.bool false)], args := [d1, d2, d3] }
  | _ => none }
def FnExactPressureAtWrongFalsely : Prop := fnExactPressureAtRow.holds Try.pinned (OpenSpec.ofChange fnExactPressureAtWrong)

/-- 'laws.FnExactIsSilentPipe': WHATEVER THE INPUT: true; the input reads as it did. -/
def fnExactIsSilentPipeSpec : ChangeSpec := { name := "fnExactIsSilentPipe", fn := fun _ => fun
  | [d] => { results := [.lit (.bool true)], args := [d] }
  | _ => none }
def fnExactIsSilentPipeRow : OpenClaim := { program := "ytfhegjjgfaeinaa", sum := "b56ccd2878b128f36c73b0ef80060a11331110ada564ef152f628b27887397de", func := "loop.example/g01173/laws.FnExactIsSilentPipe", spec := "fnExactIsSilentPipe", inPlace := ["math.Float32bits"], unfollowed := true, recurses := true, apart := false }
def FnExactIsSilentPipeSaid : Prop := fnExactIsSilentPipeRow.holds Try.pinned (OpenSpec.ofChange fnExactIsSilentPipeSpec)

/-- ITS FALSE NEIGHBOUR: 'it returns false'. Refute it at one input. -/
def fnExactIsSilentPipeWrong : ChangeSpec := { name := "fnExactIsSilentPipe", fn := fun _ => fun
  | [d] => { results := [.lit (.bool false)], args := [d] }
  | _ => none }
def FnExactIsSilentPipeWrongFalsely : Prop := fnExactIsSilentPipeRow.holds Try.pinned (OpenSpec.ofChange fnExactIsSilentPipeWrong)

/-- 'laws.FnExactSameRoom': WHATEVER THE INPUT: true; the input reads as it did. -/
def fnExactSameRoomSpec : ChangeSpec := { name := "fnExactSameRoom", fn := fun _ => fun
  | [d1, d2] => { results := [.lit (.bool true)], args := [d1, d2] }
  | _ => none }
def fnExactSameRoomRow : OpenClaim := { program := "ytfhegjjgfaeinaa", sum := "b56ccd2878b128f36c73b0ef80060a11331110ada564ef152f628b27887397de", func := "loop.example/g01173/laws.FnExactSameRoom", spec := "fnExactSameRoom", inPlace := ["math.Float32bits"], unfollowed := true, recurses := true, apart := false }
def FnExactSameRoomSaid : Prop := fnExactSameRoomRow.holds Try.pinned (OpenSpec.ofChange fnExactSameRoomSpec)

/-- ITS FALSE NEIGHBOUR: 'it returns false'. Refute it at one input. -/
def fnExactSameRoomWrong : ChangeSpec := { name := "fnExactSameRoom", fn := fun _ => fun
  | [d1, d2] => { results := [.lit (.bool false)], args := [d1, d2] }
  | _ => none }
def FnExactSameRoomWrongFalsely : Prop := fnExactSameRoomRow.holds Try.pinned (OpenSpec.ofChange fnExactSameRoomWrong)

/-- 'laws.FnExactValidRoom': WHATEVER THE INPUT: true; the input reads as it did. -/
def fnExactValidRoomSpec : ChangeSpec := { name := "fnExactValidRoom", fn := fun _ => fun
  | [d] => { results := [.lit (.bool true)], args := [d] }
  | _ => none }
def fnExactValidRoomRow : OpenClaim := { program := "ytfhegjjgfaeinaa", sum := "b56ccd2878b128f36c73b0ef80060a11331110ada564ef152f628b27887397de", func := "loop.example/g01173/laws.FnExactValidRoom", spec := "fnExactValidRoom", inPlace := ["math.Float32bits"], unfollowed := true, recurses := true, apart := false }
def FnExactValidRoomSaid : Prop := fnExactValidRoomRow.holds Try.pinned (OpenSpec.ofChange fnExactValidRoomSpec)

/-- ITS FALSE NEIGHBOUR: 'it returns false'. Refute it at one input. -/
def fnExactValidRoomWrong : ChangeSpec := { name := "fnExactValidRoom", fn := fun _ => fun
  | [d] => { results := [.lit (.bool false)], args := [d] }
  | _ => none }
def FnExactValidRoomWrongFalsely : Prop := fnExactValidRoomRow.holds Try.pinned (OpenSpec.ofChange fnExactValidRoomWrong)

/-- 'laws.FnExactEnergyOfRoom': WHATEVER THE INPUT: true; the input reads as it did. -/
def fnExactEnergyOfRoomSpec : ChangeSpec := { name := "fnExactEnergyOfRoom", fn := fun _ => fun
  | [d] => { results := [.lit (.bool true)], args := [d] }
  | _ => none }
def fnExactEnergyOfRoomRow : OpenClaim := { program := "ytfhegjjgfaeinaa", sum := "b56ccd2878b128f36c73b0ef80060a11331110ada564ef152f628b27887397de", func := "loop.example/g01173/laws.FnExactEnergyOfRoom", spec := "fnExactEnergyOfRoom", inPlace := ["math.Float32bits"], unfollowed := true, recurses := true, apart := false }
def FnExactEnergyOfRoomSaid : Prop := fnExactEnergyOfRoomRow.holds Try.pinned (OpenSpec.ofChange fnExactEnergyOfRoomSpec)

/-- ITS FALSE NEIGHBOUR: 'it returns false'. Refute it at one input. -/
def fnExactEnergyOfRoomWrong : ChangeSpec := { name := "fnExactEnergyOfRoom", fn := fun _ => fun
  | [d] => { results := [.lit (.bool false)], args := [d] }
  | _ => none }
def FnExactEnergyOfRoomWrongFalsely : Prop := fnExactEnergyOfRoomRow.holds Try.pinned (OpenSpec.ofChange fnExactEnergyOfRoomWrong)

/-- 'laws.FnExactIsSilentRoom': WHATEVER THE INPUT: true; the input reads as it did. -/
def fnExactIsSilentRoomSpec : ChangeSpec := { name := "fnExactIsSilentRoom", fn := fun _ => fun
  | [d] => { results := [.lit (.bool true)], args := [d] }
  | _ => none }
def fnExactIsSilentRoomRow : OpenClaim := { program := "ytfhegjjgfaeinaa", sum := "b56ccd2878b128f36c73b0ef80060a11331110ada564ef152f628b27887397de", func := "loop.example/g01173/laws.FnExactIsSilentRoom", spec := "fnExactIsSilentRoom", inPlace := ["math.Float32bits"], unfollowed := true, recurses := true, apart := false }
def FnExactIsSilentRoomSaid : Prop := fnExactIsSilentRoomRow.holds Try.pinned (OpenSpec.ofChange fnExactIsSilentRoomSpec)

/-- ITS FALSE NEIGHBOUR: 'it returns false'. Refute it at one input. -/
def fnExactIsSilentRoomWrong : ChangeSpec := { name := "fnExactIsSilentRoom", fn := fun _ => fun
  | [d] => { results := [.lit (.bool false)], args := [d] }
  | _ => none }
def FnExactIsSilentRoomWrongFalsely : Prop := fnExactIsSilentRoomRow.holds Try.pinned (OpenSpec.ofChange fnExactIsSilentRoomWrong)

/- THE SECOND FORM. 'bulk': how many values and letters a reading holds, each counted each time it is reached (what is shared counts as often as it is met; a slice's spare places count too). A statement '..UptoSaid' is the law's where the arguments, and the package variables that the reading takes, are together of bulk at most 1048576: NARROWER than '..Said'. Prove '..Said' where nothing that the law and all that it calls make is longer than what came in: it says more and counts as full. Else prove '..UptoSaid'. A law counts once. -/
mutual
def uptoBulk {H : Type} : DataW H → Nat
  | .lit (.string bytes) => bytes.length + 1
  | .lit _ => 1
  | .nil => 1
  | .ptr d => uptoBulk d + 1
  | .slice elems spare => uptoBulkAll elems + uptoBulkAll spare + 1
  | .agg parts => uptoBulkAll parts + 1
  | .iface _ d => uptoBulk d + 1
  | .map entries => uptoBulkEntries entries + 1
  | .held _ => 1
def uptoBulkAll {H : Type} : List (DataW H) → Nat
  | [] => 0
  | d :: r => uptoBulk d + uptoBulkAll r
def uptoBulkEntries {H : Type} : List (Lit × DataW H) → Nat
  | [] => 0
  | x :: r => uptoBulkEntry x + uptoBulkEntries r
def uptoBulkEntry {H : Type} : Lit × DataW H → Nat
  | (.string bytes, d) => bytes.length + uptoBulk d + 1
  | (_, d) => uptoBulk d + 1
 end
def uptoSmall : (H : Type) → List (DataW H) → Bool := fun _ ds => decide (uptoBulkAll ds ≤ 1048576)
def OpenSpec.upto (s : _root_.Go.ChangeSpec) : _root_.Go.OpenSpec := { _root_.Go.OpenSpec.ofChange s with cond := some uptoSmall }

/-- 'laws.FnExactValidPipe', WHERE WHAT IT READS IS OF BULK AT MOST 1048576: true; the input reads as it did. -/
def fnExactValidPipeUptoRow : OpenClaim := { program := "ytfhegjjgfaeinaa", sum := "b56ccd2878b128f36c73b0ef80060a11331110ada564ef152f628b27887397de", func := "loop.example/g01173/laws.FnExactValidPipe", spec := "fnExactValidPipe", inPlace := ["math.Float32bits"], unfollowed := true, recurses := true, apart := false, narrowed := true }
def FnExactValidPipeUptoSaid : Prop := fnExactValidPipeUptoRow.holds Try.pinned (OpenSpec.upto fnExactValidPipeSpec)

/-- 'laws.FnExactNewRoom', WHERE WHAT IT READS IS OF BULK AT MOST 1048576: true; the input reads as it did. -/
def fnExactNewRoomUptoRow : OpenClaim := { program := "ytfhegjjgfaeinaa", sum := "b56ccd2878b128f36c73b0ef80060a11331110ada564ef152f628b27887397de", func := "loop.example/g01173/laws.FnExactNewRoom", spec := "fnExactNewRoom", apart := false, narrowed := true }
def FnExactNewRoomUptoSaid : Prop := fnExactNewRoomUptoRow.holds Try.pinned (OpenSpec.upto fnExactNewRoomSpec)

/-- 'laws.FnExactLengthOfPipe', WHERE WHAT IT READS IS OF BULK AT MOST 1048576: true; the input reads as it did. -/
def fnExactLengthOfPipeUptoRow : OpenClaim := { program := "ytfhegjjgfaeinaa", sum := "b56ccd2878b128f36c73b0ef80060a11331110ada564ef152f628b27887397de", func := "loop.example/g01173/laws.FnExactLengthOfPipe", spec := "fnExactLengthOfPipe", inPlace := ["math.Float32bits"], unfollowed := true, recurses := true, apart := false, narrowed := true }
def FnExactLengthOfPipeUptoSaid : Prop := fnExactLengthOfPipeUptoRow.holds Try.pinned (OpenSpec.upto fnExactLengthOfPipeSpec)

/-- 'laws.FnExactEnergyOfPipe', WHERE WHAT IT READS IS OF BULK AT MOST 1048576: true; the input reads as it did. -/
def fnExactEnergyOfPipeUptoRow : OpenClaim := { program := "ytfhegjjgfaeinaa", sum := "b56ccd2878b128f36c73b0ef80060a11331110ada564ef152f628b27887397de", func := "loop.example/g01173/laws.FnExactEnergyOfPipe", spec := "fnExactEnergyOfPipe", inPlace := ["math.Float32bits"], unfollowed := true, recurses := true, apart := false, narrowed := true }
def FnExactEnergyOfPipeUptoSaid : Prop := fnExactEnergyOfPipeUptoRow.holds Try.pinned (OpenSpec.upto fnExactEnergyOfPipeSpec)

/-- 'laws.FnExactPressureAt', WHERE WHAT IT READS IS OF BULK AT MOST 1048576: true; the input reads as it did. -/
def fnExactPressureAtUptoRow : OpenClaim := { program := "ytfhegjjgfaeinaa", sum := "b56ccd2878b128f36c73b0ef80060a11331110ada564ef152f628b27887397de", func := "loop.example/g01173/laws.FnExactPressureAt", spec := "fnExactPressureAt", inPlace := ["math.Float32bits"], unfollowed := true, recurses := true, apart := false, narrowed := true }
def FnExactPressureAtUptoSaid : Prop := fnExactPressureAtUptoRow.holds Try.pinned (OpenSpec.upto fnExactPressureAtSpec)

/-- 'laws.FnExactIsSilentPipe', WHERE WHAT IT READS IS OF BULK AT MOST 1048576: true; the input reads as it did. -/
def fnExactIsSilentPipeUptoRow : OpenClaim := { program := "ytfhegjjgfaeinaa", sum := "b56ccd2878b128f36c73b0ef80060a11331110ada564ef152f628b27887397de", func := "loop.example/g01173/laws.FnExactIsSilentPipe", spec := "fnExactIsSilentPipe", inPlace := ["math.Float32bits"], unfollowed := true, recurses := true, apart := false, narrowed := true }
def FnExactIsSilentPipeUptoSaid : Prop := fnExactIsSilentPipeUptoRow.holds Try.pinned (OpenSpec.upto fnExactIsSilentPipeSpec)

/-- 'laws.FnExactSameRoom', WHERE WHAT IT READS IS OF BULK AT MOST 1048576: true; the input reads as it did. -/
def fnExactSameRoomUptoRow : OpenClaim := { program := "ytfhegjjgfaeinaa", sum := "b56ccd2878b128f36c73b0ef80060a11331110ada564ef152f628b27887397de", func := "loop.example/g01173/laws.FnExactSameRoom", spec := "fnExactSameRoom", inPlace := ["math.Float32bits"], unfollowed := true, recurses := true, apart := false, narrowed := true }
def FnExactSameRoomUptoSaid : Prop := fnExactSameRoomUptoRow.holds Try.pinned (OpenSpec.upto fnExactSameRoomSpec)

/-- 'laws.FnExactValidRoom', WHERE WHAT IT READS IS OF BULK AT MOST 1048576: true; the input reads as it did. -/
def fnExactValidRoomUptoRow : OpenClaim := { program := "ytfhegjjgfaeinaa", sum := "b56ccd2878b128f36c73b0ef80060a11331110ada564ef152f628b27887397de", func := "loop.example/g01173/laws.FnExactValidRoom", spec := "fnExactValidRoom", inPlace := ["math.Float32bits"], unfollowed := true, recurses := true, apart := false, narrowed := true }
def FnExactValidRoomUptoSaid : Prop := fnExactValidRoomUptoRow.holds Try.pinned (OpenSpec.upto fnExactValidRoomSpec)

/-- 'laws.FnExactEnergyOfRoom', WHERE WHAT IT READS IS OF BULK AT MOST 1048576: true; the input reads as it did. -/
def fnExactEnergyOfRoomUptoRow : OpenClaim := { program := "ytfhegjjgfaeinaa", sum := "b56ccd2878b128f36c73b0ef80060a11331110ada564ef152f628b27887397de", func := "loop.example/g01173/laws.FnExactEnergyOfRoom", spec := "fnExactEnergyOfRoom", inPlace := ["math.Float32bits"], unfollowed := true, recurses := true, apart := false, narrowed := true }
def FnExactEnergyOfRoomUptoSaid : Prop := fnExactEnergyOfRoomUptoRow.holds Try.pinned (OpenSpec.upto fnExactEnergyOfRoomSpec)

/-- 'laws.FnExactIsSilentRoom', WHERE WHAT IT READS IS OF BULK AT MOST 1048576: true; the input reads as it did. -/
def fnExactIsSilentRoomUptoRow : OpenClaim := { program := "ytfhegjjgfaeinaa", sum := "b56ccd2878b128f36c73b0ef80060a11331110ada564ef152f628b27887397de", func := "loop.example/g01173/laws.FnExactIsSilentRoom", spec := "fnExactIsSilentRoom", inPlace := ["math.Float32bits"], unfollowed := true, recurses := true, apart := false, narrowed := true }
def FnExactIsSilentRoomUptoSaid : Prop := fnExactIsSilentRoomUptoRow.holds Try.pinned (OpenSpec.upto fnExactIsSilentRoomSpec)

end Rows
end Go.Proofs.Ytfhegjjgfaeinaa
