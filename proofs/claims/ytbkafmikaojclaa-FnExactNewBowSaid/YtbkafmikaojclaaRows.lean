/-
  No cell of these rows narrows 'for every input' (looked for: loops, veiled, ifaces, maps, wideKeys, modest, calm, conditions, laid).
  DERIVED. THE GIVEN ROWS OF THIS SEAT. 12 by the template 'for every input the law returns true; each argument reads behind the call as it read before'; 0 by the template 'total and deterministic' (their statements: YtbkafmikaojclaaTotals.lean).
  GIVEN WITH THE SEED: the statements are not yours to turn. If you find one false, say at which input.
  Laid BY PROGRAM, IN A SANDBOX (cutbox-rows.mjs): the forced cells as the released guide's own fill.sh prints them over the translation b562c2cd424c7ab0… (all of the seat's roots in one cut). By AI agents, Wed Nov 11 2026. No macro, syntax, notation, axiom, sorry.
-/
import Derived.Test.YtbkafmikaojclaaChecked
import GoSem.Claim
import GoSem.ClaimJoined
import GoSem.ClaimMapViews
import Derived.JoinedTies
import Derived.KernelRfl
namespace Go.Proofs.Ytbkafmikaojclaa
/- THE CELL 'sum', in the pinned program and in every row, IS THE sha256 OF THE DUMP (.gsa) THAT YtbkafmikaojclaaProg.lean LOADS. Nothing in Lean hashes anything: it is a label: what it is worth is what the hold of that sum in a sandbox is worth. -/
noncomputable def Try.pinned : Pinned := { name := "ytbkafmikaojclaa", sum := "b562c2cd424c7ab04dfb87a4022f578ff0f43f4e72e974d0e0fbcd3b90e7e416", checked := Try.checked }
namespace Rows
def none {H : Type} : Left H := { results := [], args := [] }

/-- 'laws.FnExactNewJet': WHATEVER THE INPUT: true; the input reads as it did. -/
def fnExactNewJetSpec : ChangeSpec := { name := "fnExactNewJet", fn := fun _ => fun
  | [d1, d2, d3, d4, d5] => { results := [.lit (.bool true)], args := [d1, d2, d3, d4, d5] }
  | _ => none }
def fnExactNewJetRow : OpenClaim := { program := "ytbkafmikaojclaa", sum := "b562c2cd424c7ab04dfb87a4022f578ff0f43f4e72e974d0e0fbcd3b90e7e416", func := "loop.example/g01173/laws.FnExactNewJet", spec := "fnExactNewJet", apart := false }
def FnExactNewJetSaid : Prop := fnExactNewJetRow.holds Try.pinned (OpenSpec.ofChange fnExactNewJetSpec)

/-- ITS FALSE NEIGHBOUR: 'it returns false'. Refute it at one input. -/
def fnExactNewJetWrong : ChangeSpec := { name := "fnExactNewJet", fn := fun _ => fun
  | [d1, d2, d3, d4, d5] => { results := [.lit (.bool false)], args := [d1, d2, d3, d4, d5] }
  | _ => none }
def FnExactNewJetWrongFalsely : Prop := fnExactNewJetRow.holds Try.pinned (OpenSpec.ofChange fnExactNewJetWrong)

/-- 'laws.FnExactSameBow': WHATEVER THE INPUT: true; the input reads as it did. -/
def fnExactSameBowSpec : ChangeSpec := { name := "fnExactSameBow", fn := fun _ => fun
  | [d1, d2] => { results := [.lit (.bool true)], args := [d1, d2] }
  | _ => none }
def fnExactSameBowRow : OpenClaim := { program := "ytbkafmikaojclaa", sum := "b562c2cd424c7ab04dfb87a4022f578ff0f43f4e72e974d0e0fbcd3b90e7e416", func := "loop.example/g01173/laws.FnExactSameBow", spec := "fnExactSameBow", inPlace := ["math.Float32bits"], unfollowed := true, recurses := true, apart := false }
def FnExactSameBowSaid : Prop := fnExactSameBowRow.holds Try.pinned (OpenSpec.ofChange fnExactSameBowSpec)

/-- ITS FALSE NEIGHBOUR: 'it returns false'. Refute it at one input. -/
def fnExactSameBowWrong : ChangeSpec := { name := "fnExactSameBow", fn := fun _ => fun
  | [d1, d2] => { results := [.lit (.bool false)], args := [d1, d2] }
  | _ => none }
def FnExactSameBowWrongFalsely : Prop := fnExactSameBowRow.holds Try.pinned (OpenSpec.ofChange fnExactSameBowWrong)

/-- 'laws.FnExactSameJet': WHATEVER THE INPUT: true; the input reads as it did. -/
def fnExactSameJetSpec : ChangeSpec := { name := "fnExactSameJet", fn := fun _ => fun
  | [d1, d2] => { results := [.lit (.bool true)], args := [d1, d2] }
  | _ => none }
def fnExactSameJetRow : OpenClaim := { program := "ytbkafmikaojclaa", sum := "b562c2cd424c7ab04dfb87a4022f578ff0f43f4e72e974d0e0fbcd3b90e7e416", func := "loop.example/g01173/laws.FnExactSameJet", spec := "fnExactSameJet", inPlace := ["math.Float32bits"], unfollowed := true, recurses := true, apart := false }
def FnExactSameJetSaid : Prop := fnExactSameJetRow.holds Try.pinned (OpenSpec.ofChange fnExactSameJetSpec)

/-- ITS FALSE NEIGHBOUR: 'it returns false'. Refute it at one input. -/
def fnExactSameJetWrong : ChangeSpec := { name := "fnExactSameJet", fn := fun _ => fun
  | [d1, d2] => { results := [.lit (.bool false)], args := [d1, d2] }
  | _ => none }
def FnExactSameJetWrongFalsely : Prop := fnExactSameJetRow.holds Try.pinned (OpenSpec.ofChange fnExactSameJetWrong)

/-- 'laws.FnExactNewBow': WHATEVER THE INPUT: true; the input reads as it did. -/
def fnExactNewBowSpec : ChangeSpec := { name := "fnExactNewBow", fn := fun _ => fun
  | [d1, d2, d3, d4, d5] => { results := [.lit (.bool true)], args := [d1, d2, d3, d4, d5] }
  | _ => none }
def fnExactNewBowRow : OpenClaim := { program := "ytbkafmikaojclaa", sum := "b562c2cd424c7ab04dfb87a4022f578ff0f43f4e72e974d0e0fbcd3b90e7e416", func := "loop.example/g01173/laws.FnExactNewBow", spec := "fnExactNewBow", inPlace := ["math.archFloor", "math.Float64bits", "math.Float64frombits", "math.archTrunc"], apart := false }
def FnExactNewBowSaid : Prop := fnExactNewBowRow.holds Try.pinned (OpenSpec.ofChange fnExactNewBowSpec)

/-- ITS FALSE NEIGHBOUR: 'it returns false'. Refute it at one input. -/
def fnExactNewBowWrong : ChangeSpec := { name := "fnExactNewBow", fn := fun _ => fun
  | [d1, d2, d3, d4, d5] => { results := [.lit (.bool false)], args := [d1, d2, d3, d4, d5] }
  | _ => none }
def FnExactNewBowWrongFalsely : Prop := fnExactNewBowRow.holds Try.pinned (OpenSpec.ofChange fnExactNewBowWrong)

/-- 'laws.FnExactIsSilentString': WHATEVER THE INPUT: true; the input reads as it did. -/
def fnExactIsSilentStringSpec : ChangeSpec := { name := "fnExactIsSilentString", fn := fun _ => fun
  | [d] => { results := [.lit (.bool true)], args := [d] }
  | _ => none }
def fnExactIsSilentStringRow : OpenClaim := { program := "ytbkafmikaojclaa", sum := "b562c2cd424c7ab04dfb87a4022f578ff0f43f4e72e974d0e0fbcd3b90e7e416", func := "loop.example/g01173/laws.FnExactIsSilentString", spec := "fnExactIsSilentString", inPlace := ["math.Float32bits"], apart := false }
def FnExactIsSilentStringSaid : Prop := fnExactIsSilentStringRow.holds Try.pinned (OpenSpec.ofChange fnExactIsSilentStringSpec)

/-- ITS FALSE NEIGHBOUR: 'it returns false'. Refute it at one input. -/
def fnExactIsSilentStringWrong : ChangeSpec := { name := "fnExactIsSilentString", fn := fun _ => fun
  | [d] => { results := [.lit (.bool false)], args := [d] }
  | _ => none }
def FnExactIsSilentStringWrongFalsely : Prop := fnExactIsSilentStringRow.holds Try.pinned (OpenSpec.ofChange fnExactIsSilentStringWrong)

/-- 'laws.FnExactValidBow': WHATEVER THE INPUT: true; the input reads as it did. -/
def fnExactValidBowSpec : ChangeSpec := { name := "fnExactValidBow", fn := fun _ => fun
  | [d] => { results := [.lit (.bool true)], args := [d] }
  | _ => none }
def fnExactValidBowRow : OpenClaim := { program := "ytbkafmikaojclaa", sum := "b562c2cd424c7ab04dfb87a4022f578ff0f43f4e72e974d0e0fbcd3b90e7e416", func := "loop.example/g01173/laws.FnExactValidBow", spec := "fnExactValidBow", inPlace := ["math.Float32bits"], unfollowed := true, recurses := true, apart := false }
def FnExactValidBowSaid : Prop := fnExactValidBowRow.holds Try.pinned (OpenSpec.ofChange fnExactValidBowSpec)

/-- ITS FALSE NEIGHBOUR: 'it returns false'. Refute it at one input. -/
def fnExactValidBowWrong : ChangeSpec := { name := "fnExactValidBow", fn := fun _ => fun
  | [d] => { results := [.lit (.bool false)], args := [d] }
  | _ => none }
def FnExactValidBowWrongFalsely : Prop := fnExactValidBowRow.holds Try.pinned (OpenSpec.ofChange fnExactValidBowWrong)

/-- 'laws.FnExactValidJet': WHATEVER THE INPUT: true; the input reads as it did. -/
def fnExactValidJetSpec : ChangeSpec := { name := "fnExactValidJet", fn := fun _ => fun
  | [d] => { results := [.lit (.bool true)], args := [d] }
  | _ => none }
def fnExactValidJetRow : OpenClaim := { program := "ytbkafmikaojclaa", sum := "b562c2cd424c7ab04dfb87a4022f578ff0f43f4e72e974d0e0fbcd3b90e7e416", func := "loop.example/g01173/laws.FnExactValidJet", spec := "fnExactValidJet", inPlace := ["math.Float32bits"], unfollowed := true, recurses := true, apart := false }
def FnExactValidJetSaid : Prop := fnExactValidJetRow.holds Try.pinned (OpenSpec.ofChange fnExactValidJetSpec)

/-- ITS FALSE NEIGHBOUR: 'it returns false'. Refute it at one input. -/
def fnExactValidJetWrong : ChangeSpec := { name := "fnExactValidJet", fn := fun _ => fun
  | [d] => { results := [.lit (.bool false)], args := [d] }
  | _ => none }
def FnExactValidJetWrongFalsely : Prop := fnExactValidJetRow.holds Try.pinned (OpenSpec.ofChange fnExactValidJetWrong)

/-- 'laws.FnPowers': WHATEVER THE INPUT: true; the input reads as it did. -/
def fnPowersSpec : ChangeSpec := { name := "fnPowers", fn := fun _ => fun
  | [d1, d2] => { results := [.lit (.bool true)], args := [d1, d2] }
  | _ => none }
def fnPowersRow : OpenClaim := { program := "ytbkafmikaojclaa", sum := "b562c2cd424c7ab04dfb87a4022f578ff0f43f4e72e974d0e0fbcd3b90e7e416", func := "loop.example/g01173/laws.FnPowers", spec := "fnPowers", inPlace := ["math.archFloor", "math.Float64bits", "math.Float64frombits", "math.archTrunc", "math.Float32bits", "math.Float32frombits"], apart := false }
def FnPowersSaid : Prop := fnPowersRow.holds Try.pinned (OpenSpec.ofChange fnPowersSpec)

/-- ITS FALSE NEIGHBOUR: 'it returns false'. Refute it at one input. -/
def fnPowersWrong : ChangeSpec := { name := "fnPowers", fn := fun _ => fun
  | [d1, d2] => { results := [.lit (.bool false)], args := [d1, d2] }
  | _ => none }
def FnPowersWrongFalsely : Prop := fnPowersRow.holds Try.pinned (OpenSpec.ofChange fnPowersWrong)

/-- 'laws.FnExactIsSilentBow': WHATEVER THE INPUT: true; the input reads as it did. -/
def fnExactIsSilentBowSpec : ChangeSpec := { name := "fnExactIsSilentBow", fn := fun _ => fun
  | [d] => { results := [.lit (.bool true)], args := [d] }
  | _ => none }
def fnExactIsSilentBowRow : OpenClaim := { program := "ytbkafmikaojclaa", sum := "b562c2cd424c7ab04dfb87a4022f578ff0f43f4e72e974d0e0fbcd3b90e7e416", func := "loop.example/g01173/laws.FnExactIsSilentBow", spec := "fnExactIsSilentBow", inPlace := ["math.Float32bits"], unfollowed := true, recurses := true, apart := false }
def FnExactIsSilentBowSaid : Prop := fnExactIsSilentBowRow.holds Try.pinned (OpenSpec.ofChange fnExactIsSilentBowSpec)

/-- ITS FALSE NEIGHBOUR: 'it returns false'. Refute it at one input. -/
def fnExactIsSilentBowWrong : ChangeSpec := { name := "fnExactIsSilentBow", fn := fun _ => fun
  | [d] => { results := [.lit (.bool false)], args := [d] }
  | _ => none }
def FnExactIsSilentBowWrongFalsely : Prop := fnExactIsSilentBowRow.holds Try.pinned (OpenSpec.ofChange fnExactIsSilentBowWrong)

/-- 'laws.FnExactIsSilentJet': WHATEVER THE INPUT: true; the input reads as it did. -/
def fnExactIsSilentJetSpec : ChangeSpec := { name := "fnExactIsSilentJet", fn := fun _ => fun
  | [d] => { results := [.lit (.bool true)], args := [d] }
  | _ => none }
def fnExactIsSilentJetRow : OpenClaim := { program := "ytbkafmikaojclaa", sum := "b562c2cd424c7ab04dfb87a4022f578ff0f43f4e72e974d0e0fbcd3b90e7e416", func := "loop.example/g01173/laws.FnExactIsSilentJet", spec := "fnExactIsSilentJet", inPlace := ["math.Float32bits"], unfollowed := true, recurses := true, apart := false }
def FnExactIsSilentJetSaid : Prop := fnExactIsSilentJetRow.holds Try.pinned (OpenSpec.ofChange fnExactIsSilentJetSpec)

/-- ITS FALSE NEIGHBOUR: 'it returns false'. Refute it at one input. -/
def fnExactIsSilentJetWrong : ChangeSpec := { name := "fnExactIsSilentJet", fn := fun _ => fun
  | [d] => { results := [.lit (.bool false)], args := [d] }
  | _ => none }
def FnExactIsSilentJetWrongFalsely : Prop := fnExactIsSilentJetRow.holds Try.pinned (OpenSpec.ofChange fnExactIsSilentJetWrong)

/-- 'laws.FnExactMuteBow': WHATEVER THE INPUT: true; the input reads as it did. -/
def fnExactMuteBowSpec : ChangeSpec := { name := "fnExactMuteBow", fn := fun _ => fun
  | [d] => { results := [.lit (.bool true)], args := [d] }
  | _ => none }
def fnExactMuteBowRow : OpenClaim := { program := "ytbkafmikaojclaa", sum := "b562c2cd424c7ab04dfb87a4022f578ff0f43f4e72e974d0e0fbcd3b90e7e416", func := "loop.example/g01173/laws.FnExactMuteBow", spec := "fnExactMuteBow", inPlace := ["math.Float32bits"], unfollowed := true, recurses := true, apart := false }
def FnExactMuteBowSaid : Prop := fnExactMuteBowRow.holds Try.pinned (OpenSpec.ofChange fnExactMuteBowSpec)

/-- ITS FALSE NEIGHBOUR: 'it returns false'. Refute it at one input. -/
def fnExactMuteBowWrong : ChangeSpec := { name := "fnExactMuteBow", fn := fun _ => fun
  | [d] => { results := [.lit (.bool false)], args := [d] }
  | _ => none }
def FnExactMuteBowWrongFalsely : Prop := fnExactMuteBowRow.holds Try.pinned (OpenSpec.ofChange fnExactMuteBowWrong)

/-- 'laws.FnExactMuteJet': WHATEVER THE INPUT: true; the input reads as it did. -/
def fnExactMuteJetSpec : ChangeSpec := { name := "fnExactMuteJet", fn := fun _ => fun
  | [d] => { results := [.lit (.bool true)], args := [d] }
  | _ => none }
def fnExactMuteJetRow : OpenClaim := { program := "ytbkafmikaojclaa", sum := "b562c2cd424c7ab04dfb87a4022f578ff0f43f4e72e974d0e0fbcd3b90e7e416", func := "loop.example/g01173/laws.FnExactMuteJet", spec := "fnExactMuteJet", inPlace := ["math.Float32bits"], unfollowed := true, recurses := true, apart := false }
def FnExactMuteJetSaid : Prop := fnExactMuteJetRow.holds Try.pinned (OpenSpec.ofChange fnExactMuteJetSpec)

/-- ITS FALSE NEIGHBOUR: 'it returns false'. Refute it at one input. -/
def fnExactMuteJetWrong : ChangeSpec := { name := "fnExactMuteJet", fn := fun _ => fun
  | [d] => { results := [.lit (.bool false)], args := [d] }
  | _ => none }
def FnExactMuteJetWrongFalsely : Prop := fnExactMuteJetRow.holds Try.pinned (OpenSpec.ofChange fnExactMuteJetWrong)

/- THE SECOND FORM. 'bulk': how many values and letters a reading holds, each counted each time it is reached (what is shared counts as often as it is met; a slice's spare places count too). A statement '..UptoSaid' is the law's where the arguments, and the package variables that the reading takes, are together of bulk at most 1048576: NARROWER than '..Said'. Prove '..Said' where nothing that the law and all that it calls make is longer than what came in: it says more and counts as full. Else prove '..UptoSaid'. A law counts once. -/
mutual
def uptoBulk {H : Type} : DataW H → Nat
  | .lit (.string bytes) => bytes.length + 1
  | .lit _ => 1
  | .nil => 1
  | .ptr d => uptoBulk d + 1
  | .slice elems spare => uptoBulkAll elems + uptoBulkAll spare + 1
  | .agg parts => uptoBulkAll parts + 1
  | .iface _ d => uptoBulk d + 1
  | .map entries => uptoBulkEntries entries + 1
  | .held _ => 1
def uptoBulkAll {H : Type} : List (DataW H) → Nat
  | [] => 0
  | d :: r => uptoBulk d + uptoBulkAll r
def uptoBulkEntries {H : Type} : List (Lit × DataW H) → Nat
  | [] => 0
  | x :: r => uptoBulkEntry x + uptoBulkEntries r
def uptoBulkEntry {H : Type} : Lit × DataW H → Nat
  | (.string bytes, d) => bytes.length + uptoBulk d + 1
  | (_, d) => uptoBulk d + 1
 end
def uptoSmall : (H : Type) → List (DataW H) → Bool := fun _ ds => decide (uptoBulkAll ds ≤ 1048576)
def OpenSpec.upto (s : _root_.Go.ChangeSpec) : _root_.Go.OpenSpec := { _root_.Go.OpenSpec.ofChange s with cond := some uptoSmall }

/-- 'laws.FnExactNewJet', WHERE WHAT IT READS IS OF BULK AT MOST 1048576: true; the input reads as it did. -/
def fnExactNewJetUptoRow : OpenClaim := { program := "ytbkafmikaojclaa", sum := "b562c2cd424c7ab04dfb87a4022f578ff0f43f4e72e974d0e0fbcd3b90e7e416", func := "loop.example/g01173/laws.FnExactNewJet", spec := "fnExactNewJet", apart := false, narrowed := true }
def FnExactNewJetUptoSaid : Prop := fnExactNewJetUptoRow.holds Try.pinned (OpenSpec.upto fnExactNewJetSpec)

/-- 'laws.FnExactSameBow', WHERE WHAT IT READS IS OF BULK AT MOST 1048576: true; the input reads as it did. -/
def fnExactSameBowUptoRow : OpenClaim := { program := "ytbkafmikaojclaa", sum := "b562c2cd424c7ab04dfb87a4022f578ff0f43f4e72e974d0e0fbcd3b90e7e416", func := "loop.example/g01173/laws.FnExactSameBow", spec := "fnExactSameBow", inPlace := ["math.Float32bits"], unfollowed := true, recurses := true, apart := false, narrowed := true }
def FnExactSameBowUptoSaid : Prop := fnExactSameBowUptoRow.holds Try.pinned (OpenSpec.upto fnExactSameBowSpec)

/-- 'laws.FnExactSameJet', WHERE WHAT IT READS IS OF BULK AT MOST 1048576: true; the input reads as it did. -/
def fnExactSameJetUptoRow : OpenClaim := { program := "ytbkafmikaojclaa", sum := "b562c2cd424c7ab04dfb87a4022f578ff0f43f4e72e974d0e0fbcd3b90e7e416", func := "loop.example/g01173/laws.FnExactSameJet", spec := "fnExactSameJet", inPlace := ["math.Float32bits"], unfollowed := true, recurses := true, apart := false, narrowed := true }
def FnExactSameJetUptoSaid : Prop := fnExactSameJetUptoRow.holds Try.pinned (OpenSpec.upto fnExactSameJetSpec)

/-- 'laws.FnExactNewBow', WHERE WHAT IT READS IS OF BULK AT MOST 1048576: true; the input reads as it did. -/
def fnExactNewBowUptoRow : OpenClaim := { program := "ytbkafmikaojclaa", sum := "b562c2cd424c7ab04dfb87a4022f578ff0f43f4e72e974d0e0fbcd3b90e7e416", func := "loop.example/g01173/laws.FnExactNewBow", spec := "fnExactNewBow", inPlace := ["math.archFloor", "math.Float64bits", "math.Float64frombits", "math.archTrunc"], apart := false, narrowed := true }
def FnExactNewBowUptoSaid : Prop := fnExactNewBowUptoRow.holds Try.pinned (OpenSpec.upto fnExactNewBowSpec)

/-- 'laws.FnExactIsSilentString', WHERE WHAT IT READS IS OF BULK AT MOST 1048576: true; the input reads as it did. -/
def fnExactIsSilentStringUptoRow : OpenClaim := { program := "ytbkafmikaojclaa", sum := "b562c2cd424c7ab04dfb87a4022f578ff0f43f4e72e974d0e0fbcd3b90e7e416", func := "loop.example/g01173/laws.FnExactIsSilentString", spec := "fnExactIsSilentString", inPlace := ["math.Float32bits"], apart := false, narrowed := true }
def FnExactIsSilentStringUptoSaid : Prop := fnExactIsSilentStringUptoRow.holds Try.pinned (OpenSpec.upto fnExactIsSilentStringSpec)

/-- 'laws.FnExactValidBow', WHERE WHAT IT READS IS OF BULK AT MOST 1048576: true; the input reads as it did. -/
def fnExactValidBowUptoRow : OpenClaim := { program := "ytbkafmikaojclaa", sum := "b562c2cd424c7ab04dfb87a4022f578ff0f43f4e72e974d0e0fbcd3b90e7e416", func := "loop.example/g01173/laws.FnExactValidBow", spec := "fnExactValidBow", inPlace := ["math.Float32bits"], unfollowed := true, recurses := true, apart := false, narrowed := true }
def FnExactValidBowUptoSaid : Prop := fnExactValidBowUptoRow.holds Try.pinned (OpenSpec.upto fnExactValidBowSpec)

/-- 'laws.FnExactValidJet', WHERE WHAT IT READS IS OF BULK AT MOST 1048576: true; the input reads as it did. -/
def fnExactValidJetUptoRow : OpenClaim := { program := "ytbkafmikaojclaa", sum := "b562c2cd424c7ab04dfb87a4022f578ff0f43f4e72e974d0e0fbcd3b90e7e416", func := "loop.example/g01173/laws.FnExactValidJet", spec := "fnExactValidJet", inPlace := ["math.Float32bits"], unfollowed := true, recurses := true, apart := false, narrowed := true }
def FnExactValidJetUptoSaid : Prop := fnExactValidJetUptoRow.holds Try.pinned (OpenSpec.upto fnExactValidJetSpec)

/-- 'laws.FnPowers', WHERE WHAT IT READS IS OF BULK AT MOST 1048576: true; the input reads as it did. -/
def fnPowersUptoRow : OpenClaim := { program := "ytbkafmikaojclaa", sum := "b562c2cd424c7ab04dfb87a4022f578ff0f43f4e72e974d0e0fbcd3b90e7e416", func := "loop.example/g01173/laws.FnPowers", spec := "fnPowers", inPlace := ["math.archFloor", "math.Float64bits", "math.Float64frombits", "math.archTrunc", "math.Float32bits", "math.Float32frombits"], apart := false, narrowed := true }
def FnPowersUptoSaid : Prop := fnPowersUptoRow.holds Try.pinned (OpenSpec.upto fnPowersSpec)

/-- 'laws.FnExactIsSilentBow', WHERE WHAT IT READS IS OF BULK AT MOST 1048576: true; the input reads as it did. -/
def fnExactIsSilentBowUptoRow : OpenClaim := { program := "ytbkafmikaojclaa", sum := "b562c2cd424c7ab04dfb87a4022f578ff0f43f4e72e974d0e0fbcd3b90e7e416", func := "loop.example/g01173/laws.FnExactIsSilentBow", spec := "fnExactIsSilentBow", inPlace := ["math.Float32bits"], unfollowed := true, recurses := true, apart := false, narrowed := true }
def FnExactIsSilentBowUptoSaid : Prop := fnExactIsSilentBowUptoRow.holds Try.pinned (OpenSpec.upto fnExactIsSilentBowSpec)

/-- 'laws.FnExactIsSilentJet', WHERE WHAT IT READS IS OF BULK AT MOST 1048576: true; the input reads as it did. -/
def fnExactIsSilentJetUptoRow : OpenClaim := { program := "ytbkafmikaojclaa", sum := "b562c2cd424c7ab04dfb87a4022f578ff0f43f4e72e974d0e0fbcd3b90e7e416", func := "loop.example/g01173/laws.FnExactIsSilentJet", spec := "fnExactIsSilentJet", inPlace := ["math.Float32bits"], unfollowed := true, recurses := true, apart := false, narrowed := true }
def FnExactIsSilentJetUptoSaid : Prop := fnExactIsSilentJetUptoRow.holds Try.pinned (OpenSpec.upto fnExactIsSilentJetSpec)

/-- 'laws.FnExactMuteBow', WHERE WHAT IT READS IS OF BULK AT MOST 1048576: true; the input reads as it did. -/
def fnExactMuteBowUptoRow : OpenClaim := { program := "ytbkafmikaojclaa", sum := "b562c2cd424c7ab04dfb87a4022f578ff0f43f4e72e974d0e0fbcd3b90e7e416", func := "loop.example/g01173/laws.FnExactMuteBow", spec := "fnExactMuteBow", inPlace := ["math.Float32bits"], unfollowed := true, recurses := true, apart := false, narrowed := true }
def FnExactMuteBowUptoSaid : Prop := fnExactMuteBowUptoRow.holds Try.pinned (OpenSpec.upto fnExactMuteBowSpec)

/-- 'laws.FnExactMuteJet', WHERE WHAT IT READS IS OF BULK AT MOST 1048576: true; the input reads as it did. -/
def fnExactMuteJetUptoRow : OpenClaim := { program := "ytbkafmikaojclaa", sum := "b562c2cd424c7ab04dfb87a4022f578ff0f43f4e72e974d0e0fbcd3b90e7e416", func := "loop.example/g01173/laws.FnExactMuteJet", spec := "fnExactMuteJet", inPlace := ["math.Float32bits"], unfollowed := true, recurses := true, apart := false, narrowed := true }
def FnExactMuteJetUptoSaid : Prop := fnExactMuteJetUptoRow.holds Try.pinned (OpenSpec.upto fnExactMuteJetSpec)

end Rows
end Go.Proofs.Ytbkafmikaojclaa
