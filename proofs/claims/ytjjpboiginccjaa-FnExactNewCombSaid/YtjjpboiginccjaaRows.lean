/-
  No cell of these rows narrows 'for every input' (looked for: loops, veiled, ifaces, maps, wideKeys, modest, calm, conditions, laid).
  DERIVED. THE GIVEN ROWS OF THIS SEAT. 12 by the template 'for every input the law returns true; each argument reads behind the call as it read before'; 0 by the template 'total and deterministic' (their statements: YtjjpboiginccjaaTotals.lean).
  GIVEN WITH THE SEED: the statements are not yours to turn. If you find one false, say at which input.
  Laid BY PROGRAM, IN A SANDBOX (cutbox-rows.mjs): the forced cells as the released guide's own fill.sh prints them over the translation 2c02df39457d4357… (all of the seat's roots in one cut). By AI agents, Wed Nov 11 2026. No macro, syntax, notation, axiom, sorry.
-/
import Derived.Test.YtjjpboiginccjaaChecked
import GoSem.Claim
import GoSem.ClaimJoined
import GoSem.ClaimMapViews
import Derived.JoinedTies
import Derived.KernelRfl
namespace Go.Proofs.Ytjjpboiginccjaa
/- THE CELL 'sum', in the pinned program and in every row, IS THE sha256 OF THE DUMP (.gsa) THAT YtjjpboiginccjaaProg.lean LOADS. Nothing in Lean hashes anything: it is a label: what it is worth is what the hold of that sum in a sandbox is worth. -/
noncomputable def Try.pinned : Pinned := { name := "ytjjpboiginccjaa", sum := "2c02df39457d43573a2f93d6fde17dac99e4037231be5d4e6fc30ff3151dfe12", checked := Try.checked }
namespace Rows
def none {H : Type} : Left H := { results := [], args := [] }

/-- 'laws.FnExactSpreadFour': WHATEVER THE INPUT: true; the input reads as it did. -/
def fnExactSpreadFourSpec : ChangeSpec := { name := "fnExactSpreadFour", fn := fun _ => fun
  | [d1, d2] => { results := [.lit (.bool true)], args := [d1, d2] }
  | _ => none }
def fnExactSpreadFourRow : OpenClaim := { program := "ytjjpboiginccjaa", sum := "2c02df39457d43573a2f93d6fde17dac99e4037231be5d4e6fc30ff3151dfe12", func := "loop.example/g01173/laws.FnExactSpreadFour", spec := "fnExactSpreadFour", apart := false }
def FnExactSpreadFourSaid : Prop := fnExactSpreadFourRow.holds Try.pinned (OpenSpec.ofChange fnExactSpreadFourSpec)

/-- ITS FALSE NEIGHBOUR: 'it returns false'. Refute it at one input. -/
def fnExactSpreadFourWrong : ChangeSpec := { name := "fnExactSpreadFour", fn := fun _ => fun
  | [d1, d2] => { results := [.lit (.bool false)], args := [d1, d2] }
  | _ => none }
def FnExactSpreadFourWrongFalsely : Prop := fnExactSpreadFourRow.holds Try.pinned (OpenSpec.ofChange fnExactSpreadFourWrong)

/-- 'laws.FnExactJetAt': WHATEVER THE INPUT: true; the input reads as it did. -/
def fnExactJetAtSpec : ChangeSpec := { name := "fnExactJetAt", fn := fun _ => fun
  | [d] => { results := [.lit (.bool true)], args := [d] }
  | _ => none }
def fnExactJetAtRow : OpenClaim := { program := "ytjjpboiginccjaa", sum := "2c02df39457d43573a2f93d6fde17dac99e4037231be5d4e6fc30ff3151dfe12", func := "loop.example/g01173/laws.FnExactJetAt", spec := "fnExactJetAt", apart := false }
def FnExactJetAtSaid : Prop := fnExactJetAtRow.holds Try.pinned (OpenSpec.ofChange fnExactJetAtSpec)

/-- ITS FALSE NEIGHBOUR: 'it returns false'. Refute it at one input. -/
def fnExactJetAtWrong : ChangeSpec := { name := "fnExactJetAt", fn := fun _ => fun
  | [d] => { results := [.lit (.bool false)], args := [d] }
  | _ => none }
def FnExactJetAtWrongFalsely : Prop := fnExactJetAtRow.holds Try.pinned (OpenSpec.ofChange fnExactJetAtWrong)

/-- 'laws.FnExactMixFour': WHATEVER THE INPUT: true; the input reads as it did. -/
def fnExactMixFourSpec : ChangeSpec := { name := "fnExactMixFour", fn := fun _ => fun
  | [d] => { results := [.lit (.bool true)], args := [d] }
  | _ => none }
def fnExactMixFourRow : OpenClaim := { program := "ytjjpboiginccjaa", sum := "2c02df39457d43573a2f93d6fde17dac99e4037231be5d4e6fc30ff3151dfe12", func := "loop.example/g01173/laws.FnExactMixFour", spec := "fnExactMixFour", apart := false }
def FnExactMixFourSaid : Prop := fnExactMixFourRow.holds Try.pinned (OpenSpec.ofChange fnExactMixFourSpec)

/-- ITS FALSE NEIGHBOUR: 'it returns false'. Refute it at one input. -/
def fnExactMixFourWrong : ChangeSpec := { name := "fnExactMixFour", fn := fun _ => fun
  | [d] => { results := [.lit (.bool false)], args := [d] }
  | _ => none }
def FnExactMixFourWrongFalsely : Prop := fnExactMixFourRow.holds Try.pinned (OpenSpec.ofChange fnExactMixFourWrong)

/-- 'laws.FnExactGainFor': WHATEVER THE INPUT: true; the input reads as it did. -/
def fnExactGainForSpec : ChangeSpec := { name := "fnExactGainFor", fn := fun _ => fun
  | [d1, d2] => { results := [.lit (.bool true)], args := [d1, d2] }
  | _ => none }
def fnExactGainForRow : OpenClaim := { program := "ytjjpboiginccjaa", sum := "2c02df39457d43573a2f93d6fde17dac99e4037231be5d4e6fc30ff3151dfe12", func := "loop.example/g01173/laws.FnExactGainFor", spec := "fnExactGainFor", apart := false }
def FnExactGainForSaid : Prop := fnExactGainForRow.holds Try.pinned (OpenSpec.ofChange fnExactGainForSpec)

/-- ITS FALSE NEIGHBOUR: 'it returns false'. Refute it at one input. -/
def fnExactGainForWrong : ChangeSpec := { name := "fnExactGainFor", fn := fun _ => fun
  | [d1, d2] => { results := [.lit (.bool false)], args := [d1, d2] }
  | _ => none }
def FnExactGainForWrongFalsely : Prop := fnExactGainForRow.holds Try.pinned (OpenSpec.ofChange fnExactGainForWrong)

/-- 'laws.FnExactFrictionAt': WHATEVER THE INPUT: true; the input reads as it did. -/
def fnExactFrictionAtSpec : ChangeSpec := { name := "fnExactFrictionAt", fn := fun _ => fun
  | [d1, d2] => { results := [.lit (.bool true)], args := [d1, d2] }
  | _ => none }
def fnExactFrictionAtRow : OpenClaim := { program := "ytjjpboiginccjaa", sum := "2c02df39457d43573a2f93d6fde17dac99e4037231be5d4e6fc30ff3151dfe12", func := "loop.example/g01173/laws.FnExactFrictionAt", spec := "fnExactFrictionAt", inPlace := ["math.Float32bits", "math.Float32frombits", "math.Float64bits", "math.Float64frombits"], apart := false }
def FnExactFrictionAtSaid : Prop := fnExactFrictionAtRow.holds Try.pinned (OpenSpec.ofChange fnExactFrictionAtSpec)

/-- ITS FALSE NEIGHBOUR: 'it returns false'. Refute it at one input. -/
def fnExactFrictionAtWrong : ChangeSpec := { name := "fnExactFrictionAt", fn := fun _ => fun
  | [d1, d2] => { results := [.lit (.bool false)], args := [d1, d2] }
  | _ => none }
def FnExactFrictionAtWrongFalsely : Prop := fnExactFrictionAtRow.holds Try.pinned (OpenSpec.ofChange fnExactFrictionAtWrong)

/-- 'laws.FnExactFrictionTable': WHATEVER THE INPUT: true; the input reads as it did. -/
def fnExactFrictionTableSpec : ChangeSpec := { name := "fnExactFrictionTable", fn := fun _ => fun
  | [d] => { results := [.lit (.bool true)], args := [d] }
  | _ => none }
def fnExactFrictionTableRow : OpenClaim := { program := "ytjjpboiginccjaa", sum := "2c02df39457d43573a2f93d6fde17dac99e4037231be5d4e6fc30ff3151dfe12", func := "loop.example/g01173/laws.FnExactFrictionTable", spec := "fnExactFrictionTable", inPlace := ["math.Float32bits", "math.Float32frombits", "math.Float64bits", "math.Float64frombits"], apart := false }
def FnExactFrictionTableSaid : Prop := fnExactFrictionTableRow.holds Try.pinned (OpenSpec.ofChange fnExactFrictionTableSpec)

/-- ITS FALSE NEIGHBOUR: 'it returns false'. Refute it at one input. -/
def fnExactFrictionTableWrong : ChangeSpec := { name := "fnExactFrictionTable", fn := fun _ => fun
  | [d] => { results := [.lit (.bool false)], args := [d] }
  | _ => none }
def FnExactFrictionTableWrongFalsely : Prop := fnExactFrictionTableRow.holds Try.pinned (OpenSpec.ofChange fnExactFrictionTableWrong)

/-- 'laws.FnExactBestRatio': WHATEVER THE INPUT: true; the input reads as it did. -/
def fnExactBestRatioSpec : ChangeSpec := { name := "fnExactBestRatio", fn := fun _ => fun
  | [d1, d2] => { results := [.lit (.bool true)], args := [d1, d2] }
  | _ => none }
def fnExactBestRatioRow : OpenClaim := { program := "ytjjpboiginccjaa", sum := "2c02df39457d43573a2f93d6fde17dac99e4037231be5d4e6fc30ff3151dfe12", func := "loop.example/g01173/laws.FnExactBestRatio", spec := "fnExactBestRatio", inPlace := ["math.RoundToEven", "math.Float64bits", "math.Float64frombits"], apart := false }
def FnExactBestRatioSaid : Prop := fnExactBestRatioRow.holds Try.pinned (OpenSpec.ofChange fnExactBestRatioSpec)

/-- ITS FALSE NEIGHBOUR: 'it returns false'. Refute it at one input. -/
def fnExactBestRatioWrong : ChangeSpec := { name := "fnExactBestRatio", fn := fun _ => fun
  | [d1, d2] => { results := [.lit (.bool false)], args := [d1, d2] }
  | _ => none }
def FnExactBestRatioWrongFalsely : Prop := fnExactBestRatioRow.holds Try.pinned (OpenSpec.ofChange fnExactBestRatioWrong)

/-- 'laws.FnExactEqualTuning': WHATEVER THE INPUT: true; the input reads as it did. -/
def fnExactEqualTuningSpec : ChangeSpec := { name := "fnExactEqualTuning", fn := fun _ => fun
  | [d1, d2] => { results := [.lit (.bool true)], args := [d1, d2] }
  | _ => none }
def fnExactEqualTuningRow : OpenClaim := { program := "ytjjpboiginccjaa", sum := "2c02df39457d43573a2f93d6fde17dac99e4037231be5d4e6fc30ff3151dfe12", func := "loop.example/g01173/laws.FnExactEqualTuning", spec := "fnExactEqualTuning", apart := false }
def FnExactEqualTuningSaid : Prop := fnExactEqualTuningRow.holds Try.pinned (OpenSpec.ofChange fnExactEqualTuningSpec)

/-- ITS FALSE NEIGHBOUR: 'it returns false'. Refute it at one input. -/
def fnExactEqualTuningWrong : ChangeSpec := { name := "fnExactEqualTuning", fn := fun _ => fun
  | [d1, d2] => { results := [.lit (.bool false)], args := [d1, d2] }
  | _ => none }
def FnExactEqualTuningWrongFalsely : Prop := fnExactEqualTuningRow.holds Try.pinned (OpenSpec.ofChange fnExactEqualTuningWrong)

/-- 'laws.FnExactNewComb': WHATEVER THE INPUT: true; the input reads as it did. -/
def fnExactNewCombSpec : ChangeSpec := { name := "fnExactNewComb", fn := fun _ => fun
  | [d1, d2] => { results := [.lit (.bool true)], args := [d1, d2] }
  | _ => none }
def fnExactNewCombRow : OpenClaim := { program := "ytjjpboiginccjaa", sum := "2c02df39457d43573a2f93d6fde17dac99e4037231be5d4e6fc30ff3151dfe12", func := "loop.example/g01173/laws.FnExactNewComb", spec := "fnExactNewComb", apart := false }
def FnExactNewCombSaid : Prop := fnExactNewCombRow.holds Try.pinned (OpenSpec.ofChange fnExactNewCombSpec)

/-- ITS FALSE NEIGHBOUR: 'it returns false'. Refute it at one input. -/
def fnExactNewCombWrong : ChangeSpec := { name := "fnExactNewComb", fn := fun _ => fun
  | [d1, d2] => { results := [.lit (.bool false)], args := [d1, d2] }
  | _ => none }
def FnExactNewCombWrongFalsely : Prop := fnExactNewCombRow.holds Try.pinned (OpenSpec.ofChange fnExactNewCombWrong)

/-- 'laws.FnExactIsStill': WHATEVER THE INPUT: true; the input reads as it did. -/
def fnExactIsStillSpec : ChangeSpec := { name := "fnExactIsStill", fn := fun _ => fun
  | [d] => { results := [.lit (.bool true)], args := [d] }
  | _ => none }
def fnExactIsStillRow : OpenClaim := { program := "ytjjpboiginccjaa", sum := "2c02df39457d43573a2f93d6fde17dac99e4037231be5d4e6fc30ff3151dfe12", func := "loop.example/g01173/laws.FnExactIsStill", spec := "fnExactIsStill", inPlace := ["math.Float32bits"], apart := false }
def FnExactIsStillSaid : Prop := fnExactIsStillRow.holds Try.pinned (OpenSpec.ofChange fnExactIsStillSpec)

/-- ITS FALSE NEIGHBOUR: 'it returns false'. Refute it at one input. -/
def fnExactIsStillWrong : ChangeSpec := { name := "fnExactIsStill", fn := fun _ => fun
  | [d] => { results := [.lit (.bool false)], args := [d] }
  | _ => none }
def FnExactIsStillWrongFalsely : Prop := fnExactIsStillRow.holds Try.pinned (OpenSpec.ofChange fnExactIsStillWrong)

/-- 'laws.FnExactDelayParts': WHATEVER THE INPUT: true; the input reads as it did. -/
def fnExactDelayPartsSpec : ChangeSpec := { name := "fnExactDelayParts", fn := fun _ => fun
  | [d] => { results := [.lit (.bool true)], args := [d] }
  | _ => none }
def fnExactDelayPartsRow : OpenClaim := { program := "ytjjpboiginccjaa", sum := "2c02df39457d43573a2f93d6fde17dac99e4037231be5d4e6fc30ff3151dfe12", func := "loop.example/g01173/laws.FnExactDelayParts", spec := "fnExactDelayParts", inPlace := ["math.archFloor", "math.Float64bits", "math.Float64frombits", "math.archTrunc"], apart := false }
def FnExactDelayPartsSaid : Prop := fnExactDelayPartsRow.holds Try.pinned (OpenSpec.ofChange fnExactDelayPartsSpec)

/-- ITS FALSE NEIGHBOUR: 'it returns false'. Refute it at one input. -/
def fnExactDelayPartsWrong : ChangeSpec := { name := "fnExactDelayParts", fn := fun _ => fun
  | [d] => { results := [.lit (.bool false)], args := [d] }
  | _ => none }
def FnExactDelayPartsWrongFalsely : Prop := fnExactDelayPartsRow.holds Try.pinned (OpenSpec.ofChange fnExactDelayPartsWrong)

/-- 'laws.FnExactValidTuning': WHATEVER THE INPUT: true; the input reads as it did. -/
def fnExactValidTuningSpec : ChangeSpec := { name := "fnExactValidTuning", fn := fun _ => fun
  | [d] => { results := [.lit (.bool true)], args := [d] }
  | _ => none }
def fnExactValidTuningRow : OpenClaim := { program := "ytjjpboiginccjaa", sum := "2c02df39457d43573a2f93d6fde17dac99e4037231be5d4e6fc30ff3151dfe12", func := "loop.example/g01173/laws.FnExactValidTuning", spec := "fnExactValidTuning", inPlace := ["math.Float32bits"], apart := false }
def FnExactValidTuningSaid : Prop := fnExactValidTuningRow.holds Try.pinned (OpenSpec.ofChange fnExactValidTuningSpec)

/-- ITS FALSE NEIGHBOUR: 'it returns false'. Refute it at one input. -/
def fnExactValidTuningWrong : ChangeSpec := { name := "fnExactValidTuning", fn := fun _ => fun
  | [d] => { results := [.lit (.bool false)], args := [d] }
  | _ => none }
def FnExactValidTuningWrongFalsely : Prop := fnExactValidTuningRow.holds Try.pinned (OpenSpec.ofChange fnExactValidTuningWrong)

/- THE SECOND FORM. 'bulk': how many values and letters a reading holds, each counted each time it is reached (what is shared counts as often as it is met; a slice's spare places count too). A statement '..UptoSaid' is the law's where the arguments, and the package variables that the reading takes, are together of bulk at most 1048576: NARROWER than '..Said'. Prove '..Said' where nothing that the law and all that it calls make is longer than what came in: it says more and counts as full. Else prove '..UptoSaid'. A law counts once. -/
mutual
def uptoBulk {H : Type} : DataW H → Nat
  | .lit (.string bytes) => bytes.length + 1
  | .lit _ => 1
  | .nil => 1
  | .ptr d => uptoBulk d + 1
  | .slice elems spare => uptoBulkAll elems + uptoBulkAll spare + 1
  | .agg parts => uptoBulkAll parts + 1
  | .iface _ d => uptoBulk d + 1
  | .map entries => uptoBulkEntries entries + 1
  | .held _ => 1
def uptoBulkAll {H : Type} : List (DataW H) → Nat
  | [] => 0
  | d :: r => uptoBulk d + uptoBulkAll r
def uptoBulkEntries {H : Type} : List (Lit × DataW H) → Nat
  | [] => 0
  | x :: r => uptoBulkEntry x + uptoBulkEntries r
def uptoBulkEntry {H : Type} : Lit × DataW H → Nat
  | (.string bytes, d) => bytes.length + uptoBulk d + 1
  | (_, d) => uptoBulk d + 1
 end
def uptoSmall : (H : Type) → List (DataW H) → Bool := fun _ ds => decide (uptoBulkAll ds ≤ 1048576)
def OpenSpec.upto (s : _root_.Go.ChangeSpec) : _root_.Go.OpenSpec := { _root_.Go.OpenSpec.ofChange s with cond := some uptoSmall }

/-- 'laws.FnExactSpreadFour', WHERE WHAT IT READS IS OF BULK AT MOST 1048576: true; the input reads as it did. -/
def fnExactSpreadFourUptoRow : OpenClaim := { program := "ytjjpboiginccjaa", sum := "2c02df39457d43573a2f93d6fde17dac99e4037231be5d4e6fc30ff3151dfe12", func := "loop.example/g01173/laws.FnExactSpreadFour", spec := "fnExactSpreadFour", apart := false, narrowed := true }
def FnExactSpreadFourUptoSaid : Prop := fnExactSpreadFourUptoRow.holds Try.pinned (OpenSpec.upto fnExactSpreadFourSpec)

/-- 'laws.FnExactJetAt', WHERE WHAT IT READS IS OF BULK AT MOST 1048576: true; the input reads as it did. -/
def fnExactJetAtUptoRow : OpenClaim := { program := "ytjjpboiginccjaa", sum := "2c02df39457d43573a2f93d6fde17dac99e4037231be5d4e6fc30ff3151dfe12", func := "loop.example/g01173/laws.FnExactJetAt", spec := "fnExactJetAt", apart := false, narrowed := true }
def FnExactJetAtUptoSaid : Prop := fnExactJetAtUptoRow.holds Try.pinned (OpenSpec.upto fnExactJetAtSpec)

/-- 'laws.FnExactMixFour', WHERE WHAT IT READS IS OF BULK AT MOST 1048576: true; the input reads as it did. -/
def fnExactMixFourUptoRow : OpenClaim := { program := "ytjjpboiginccjaa", sum := "2c02df39457d43573a2f93d6fde17dac99e4037231be5d4e6fc30ff3151dfe12", func := "loop.example/g01173/laws.FnExactMixFour", spec := "fnExactMixFour", apart := false, narrowed := true }
def FnExactMixFourUptoSaid : Prop := fnExactMixFourUptoRow.holds Try.pinned (OpenSpec.upto fnExactMixFourSpec)

/-- 'laws.FnExactGainFor', WHERE WHAT IT READS IS OF BULK AT MOST 1048576: true; the input reads as it did. -/
def fnExactGainForUptoRow : OpenClaim := { program := "ytjjpboiginccjaa", sum := "2c02df39457d43573a2f93d6fde17dac99e4037231be5d4e6fc30ff3151dfe12", func := "loop.example/g01173/laws.FnExactGainFor", spec := "fnExactGainFor", apart := false, narrowed := true }
def FnExactGainForUptoSaid : Prop := fnExactGainForUptoRow.holds Try.pinned (OpenSpec.upto fnExactGainForSpec)

/-- 'laws.FnExactFrictionAt', WHERE WHAT IT READS IS OF BULK AT MOST 1048576: true; the input reads as it did. -/
def fnExactFrictionAtUptoRow : OpenClaim := { program := "ytjjpboiginccjaa", sum := "2c02df39457d43573a2f93d6fde17dac99e4037231be5d4e6fc30ff3151dfe12", func := "loop.example/g01173/laws.FnExactFrictionAt", spec := "fnExactFrictionAt", inPlace := ["math.Float32bits", "math.Float32frombits", "math.Float64bits", "math.Float64frombits"], apart := false, narrowed := true }
def FnExactFrictionAtUptoSaid : Prop := fnExactFrictionAtUptoRow.holds Try.pinned (OpenSpec.upto fnExactFrictionAtSpec)

/-- 'laws.FnExactFrictionTable', WHERE WHAT IT READS IS OF BULK AT MOST 1048576: true; the input reads as it did. -/
def fnExactFrictionTableUptoRow : OpenClaim := { program := "ytjjpboiginccjaa", sum := "2c02df39457d43573a2f93d6fde17dac99e4037231be5d4e6fc30ff3151dfe12", func := "loop.example/g01173/laws.FnExactFrictionTable", spec := "fnExactFrictionTable", inPlace := ["math.Float32bits", "math.Float32frombits", "math.Float64bits", "math.Float64frombits"], apart := false, narrowed := true }
def FnExactFrictionTableUptoSaid : Prop := fnExactFrictionTableUptoRow.holds Try.pinned (OpenSpec.upto fnExactFrictionTableSpec)

/-- 'laws.FnExactBestRatio', WHERE WHAT IT READS IS OF BULK AT MOST 1048576: true; the input reads as it did. -/
def fnExactBestRatioUptoRow : OpenClaim := { program := "ytjjpboiginccjaa", sum := "2c02df39457d43573a2f93d6fde17dac99e4037231be5d4e6fc30ff3151dfe12", func := "loop.example/g01173/laws.FnExactBestRatio", spec := "fnExactBestRatio", inPlace := ["math.RoundToEven", "math.Float64bits", "math.Float64frombits"], apart := false, narrowed := true }
def FnExactBestRatioUptoSaid : Prop := fnExactBestRatioUptoRow.holds Try.pinned (OpenSpec.upto fnExactBestRatioSpec)

/-- 'laws.FnExactEqualTuning', WHERE WHAT IT READS IS OF BULK AT MOST 1048576: true; the input reads as it did. -/
def fnExactEqualTuningUptoRow : OpenClaim := { program := "ytjjpboiginccjaa", sum := "2c02df39457d43573a2f93d6fde17dac99e4037231be5d4e6fc30ff3151dfe12", func := "loop.example/g01173/laws.FnExactEqualTuning", spec := "fnExactEqualTuning", apart := false, narrowed := true }
def FnExactEqualTuningUptoSaid : Prop := fnExactEqualTuningUptoRow.holds Try.pinned (OpenSpec.upto fnExactEqualTuningSpec)

/-- 'laws.FnExactNewComb', WHERE WHAT IT READS IS OF BULK AT MOST 1048576: true; the input reads as it did. -/
def fnExactNewCombUptoRow : OpenClaim := { program := "ytjjpboiginccjaa", sum := "2c02df39457d43573a2f93d6fde17dac99e4037231be5d4e6fc30ff3151dfe12", func := "loop.example/g01173/laws.FnExactNewComb", spec := "fnExactNewComb", apart := false, narrowed := true }
def FnExactNewCombUptoSaid : Prop := fnExactNewCombUptoRow.holds Try.pinned (OpenSpec.upto fnExactNewCombSpec)

/-- 'laws.FnExactIsStill', WHERE WHAT IT READS IS OF BULK AT MOST 1048576: true; the input reads as it did. -/
def fnExactIsStillUptoRow : OpenClaim := { program := "ytjjpboiginccjaa", sum := "2c02df39457d43573a2f93d6fde17dac99e4037231be5d4e6fc30ff3151dfe12", func := "loop.example/g01173/laws.FnExactIsStill", spec := "fnExactIsStill", inPlace := ["math.Float32bits"], apart := false, narrowed := true }
def FnExactIsStillUptoSaid : Prop := fnExactIsStillUptoRow.holds Try.pinned (OpenSpec.upto fnExactIsStillSpec)

/-- 'laws.FnExactDelayParts', WHERE WHAT IT READS IS OF BULK AT MOST 1048576: true; the input reads as it did. -/
def fnExactDelayPartsUptoRow : OpenClaim := { program := "ytjjpboiginccjaa", sum := "2c02df39457d43573a2f93d6fde17dac99e4037231be5d4e6fc30ff3151dfe12", func := "loop.example/g01173/laws.FnExactDelayParts", spec := "fnExactDelayParts", inPlace := ["math.archFloor", "math.Float64bits", "math.Float64frombits", "math.archTrunc"], apart := false, narrowed := true }
def FnExactDelayPartsUptoSaid : Prop := fnExactDelayPartsUptoRow.holds Try.pinned (OpenSpec.upto fnExactDelayPartsSpec)

/-- 'laws.FnExactValidTuning', WHERE WHAT IT READS IS OF BULK AT MOST 1048576: true; the input reads as it did. -/
def fnExactValidTuningUptoRow : OpenClaim := { program := "ytjjpboiginccjaa", sum := "2c02df39457d43573a2f93d6fde17dac99e4037231be5d4e6fc30ff3151dfe12", func := "loop.example/g01173/laws.FnExactValidTuning", spec := "fnExactValidTuning", inPlace := ["math.Float32bits"], apart := false, narrowed := true }
def FnExactValidTuningUptoSaid : Prop := fnExactValidTuningUptoRow.holds Try.pinned (OpenSpec.upto fnExactValidTuningSpec)

end Rows
end Go.Proofs.Ytjjpboiginccjaa
