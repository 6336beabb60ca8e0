/-
  No cell of these rows narrows 'for every input' (looked for: loops, veiled, ifaces, maps, wideKeys, modest, calm, conditions, laid).
  DERIVED. THE GIVEN ROWS OF THIS SEAT. 15 by the template 'for every input the law returns true; each argument reads behind the call as it read before'; 0 by the template 'total and deterministic' (their statements: YtdhiihmfgmempaaTotals.lean).
  GIVEN WITH THE SEED: the statements are not yours to turn. If you find one false, say at which input.
  Laid BY PROGRAM, IN A SANDBOX (cutbox-rows.mjs): the forced cells as the released guide's own fill.sh prints them over the translation 16ba5c51682569e9… (all of the seat's roots in one cut). By AI agents, Wed Nov 11 2026. No macro, syntax, notation, axiom, sorry.
-/
import Derived.Test.YtdhiihmfgmempaaChecked
import GoSem.Claim
import GoSem.ClaimJoined
import GoSem.ClaimMapViews
import Derived.JoinedTies
import Derived.KernelRfl
namespace Go.Proofs.Ytdhiihmfgmempaa
/- THE CELL 'sum', in the pinned program and in every row, IS THE sha256 OF THE DUMP (.gsa) THAT YtdhiihmfgmempaaProg.lean LOADS. Nothing in Lean hashes anything: it is a label: what it is worth is what the hold of that sum in a sandbox is worth. -/
noncomputable def Try.pinned : Pinned := { name := "ytdhiihmfgmempaa", sum := "16ba5c51682569e92955b52465ffaa54ebeab2b3c279a1ed29c06381706d644f", checked := Try.checked }
namespace Rows
def none {H : Type} : Left H := { results := [], args := [] }

/-- 'laws.FnExactFrictionTable': WHATEVER THE INPUT: true; the input reads as it did. -/
def fnExactFrictionTableSpec : ChangeSpec := { name := "fnExactFrictionTable", fn := fun _ => fun
  | [d] => { results := [.lit (.bool true)], args := [d] }
  | _ => none }
def fnExactFrictionTableRow : OpenClaim := { program := "ytdhiihmfgmempaa", sum := "16ba5c51682569e92955b52465ffaa54ebeab2b3c279a1ed29c06381706d644f", func := "loop.example/g01173/laws.FnExactFrictionTable", spec := "fnExactFrictionTable", inPlace := ["math.Float32bits", "math.Float32frombits", "math.Float64bits", "math.Float64frombits"], apart := false }
def FnExactFrictionTableSaid : Prop := fnExactFrictionTableRow.holds Try.pinned (OpenSpec.ofChange fnExactFrictionTableSpec)

/-- ITS FALSE NEIGHBOUR: 'it returns false'. Refute it at one input. -/
def fnExactFrictionTableWrong : ChangeSpec := { name := "fnExactFrictionTable", fn := fun _ => fun
  | [d] => { results := [.lit (.bool false)], args := [d] }
  | _ => none }
def FnExactFrictionTableWrongFalsely : Prop := fnExactFrictionTableRow.holds Try.pinned (OpenSpec.ofChange fnExactFrictionTableWrong)

/-- 'laws.FnExactEqualTuning': WHATEVER THE INPUT: true; the input reads as it did. -/
def fnExactEqualTuningSpec : ChangeSpec := { name := "fnExactEqualTuning", fn := fun _ => fun
  | [d1, d2] => { results := [.lit (.bool true)], args := [d1, d2] }
  | _ => none }
def fnExactEqualTuningRow : OpenClaim := { program := "ytdhiihmfgmempaa", sum := "16ba5c51682569e92955b52465ffaa54ebeab2b3c279a1ed29c06381706d644f", func := "loop.example/g01173/laws.FnExactEqualTuning", spec := "fnExactEqualTuning", apart := false }
def FnExactEqualTuningSaid : Prop := fnExactEqualTuningRow.holds Try.pinned (OpenSpec.ofChange fnExactEqualTuningSpec)

/-- ITS FALSE NEIGHBOUR: 'it returns false'. Refute it at one input. -/
def fnExactEqualTuningWrong : ChangeSpec := { name := "fnExactEqualTuning", fn := fun _ => fun
  | [d1, d2] => { results := [.lit (.bool false)], args := [d1, d2] }
  | _ => none }
def FnExactEqualTuningWrongFalsely : Prop := fnExactEqualTuningRow.holds Try.pinned (OpenSpec.ofChange fnExactEqualTuningWrong)

/-- 'laws.FnExactValidTuning': WHATEVER THE INPUT: true; the input reads as it did. -/
def fnExactValidTuningSpec : ChangeSpec := { name := "fnExactValidTuning", fn := fun _ => fun
  | [d] => { results := [.lit (.bool true)], args := [d] }
  | _ => none }
def fnExactValidTuningRow : OpenClaim := { program := "ytdhiihmfgmempaa", sum := "16ba5c51682569e92955b52465ffaa54ebeab2b3c279a1ed29c06381706d644f", func := "loop.example/g01173/laws.FnExactValidTuning", spec := "fnExactValidTuning", inPlace := ["math.Float32bits"], apart := false }
def FnExactValidTuningSaid : Prop := fnExactValidTuningRow.holds Try.pinned (OpenSpec.ofChange fnExactValidTuningSpec)

/-- ITS FALSE NEIGHBOUR: 'it returns false'. Refute it at one input. -/
def fnExactValidTuningWrong : ChangeSpec := { name := "fnExactValidTuning", fn := fun _ => fun
  | [d] => { results := [.lit (.bool false)], args := [d] }
  | _ => none }
def FnExactValidTuningWrongFalsely : Prop := fnExactValidTuningRow.holds Try.pinned (OpenSpec.ofChange fnExactValidTuningWrong)

/-- 'laws.FnExactSameTuning': WHATEVER THE INPUT: true; the input reads as it did. -/
def fnExactSameTuningSpec : ChangeSpec := { name := "fnExactSameTuning", fn := fun _ => fun
  | [d1, d2] => { results := [.lit (.bool true)], args := [d1, d2] }
  | _ => none }
def fnExactSameTuningRow : OpenClaim := { program := "ytdhiihmfgmempaa", sum := "16ba5c51682569e92955b52465ffaa54ebeab2b3c279a1ed29c06381706d644f", func := "loop.example/g01173/laws.FnExactSameTuning", spec := "fnExactSameTuning", inPlace := ["math.Float32bits"], unfollowed := true, recurses := true, apart := false }
def FnExactSameTuningSaid : Prop := fnExactSameTuningRow.holds Try.pinned (OpenSpec.ofChange fnExactSameTuningSpec)

/-- ITS FALSE NEIGHBOUR: 'it returns false'. Refute it at one input. -/
def fnExactSameTuningWrong : ChangeSpec := { name := "fnExactSameTuning", fn := fun _ => fun
  | [d1, d2] => { results := [.lit (.bool false)], args := [d1, d2] }
  | _ => none }
def FnExactSameTuningWrongFalsely : Prop := fnExactSameTuningRow.holds Try.pinned (OpenSpec.ofChange fnExactSameTuningWrong)

/-- 'laws.FnExactValidComb': WHATEVER THE INPUT: true; the input reads as it did. -/
def fnExactValidCombSpec : ChangeSpec := { name := "fnExactValidComb", fn := fun _ => fun
  | [d] => { results := [.lit (.bool true)], args := [d] }
  | _ => none }
def fnExactValidCombRow : OpenClaim := { program := "ytdhiihmfgmempaa", sum := "16ba5c51682569e92955b52465ffaa54ebeab2b3c279a1ed29c06381706d644f", func := "loop.example/g01173/laws.FnExactValidComb", spec := "fnExactValidComb", unfollowed := true, recurses := true, apart := false }
def FnExactValidCombSaid : Prop := fnExactValidCombRow.holds Try.pinned (OpenSpec.ofChange fnExactValidCombSpec)

/-- ITS FALSE NEIGHBOUR: 'it returns false'. Refute it at one input. -/
def fnExactValidCombWrong : ChangeSpec := { name := "fnExactValidComb", fn := fun _ => fun
  | [d] => { results := [.lit (.bool false)], args := [d] }
  | _ => none }
def FnExactValidCombWrongFalsely : Prop := fnExactValidCombRow.holds Try.pinned (OpenSpec.ofChange fnExactValidCombWrong)

/-- 'laws.FnExactKeyCents': WHATEVER THE INPUT: true; the input reads as it did. -/
def fnExactKeyCentsSpec : ChangeSpec := { name := "fnExactKeyCents", fn := fun _ => fun
  | [d1, d2] => { results := [.lit (.bool true)], args := [d1, d2] }
  | _ => none }
def fnExactKeyCentsRow : OpenClaim := { program := "ytdhiihmfgmempaa", sum := "16ba5c51682569e92955b52465ffaa54ebeab2b3c279a1ed29c06381706d644f", func := "loop.example/g01173/laws.FnExactKeyCents", spec := "fnExactKeyCents", inPlace := ["math.Float32bits"], apart := false }
def FnExactKeyCentsSaid : Prop := fnExactKeyCentsRow.holds Try.pinned (OpenSpec.ofChange fnExactKeyCentsSpec)

/-- ITS FALSE NEIGHBOUR: 'it returns false'. Refute it at one input. -/
def fnExactKeyCentsWrong : ChangeSpec := { name := "fnExactKeyCents", fn := fun _ => fun
  | [d1, d2] => { results := [.lit (.bool false)], args := [d1, d2] }
  | _ => none }
def FnExactKeyCentsWrongFalsely : Prop := fnExactKeyCentsRow.holds Try.pinned (OpenSpec.ofChange fnExactKeyCentsWrong)

/-- 'laws.FnShorts': WHATEVER THE INPUT: true; the input reads as it did. -/
def fnShortsSpec : ChangeSpec := { name := "fnShorts", fn := fun _ => fun
  | [d1, d2] => { results := [.lit (.bool true)], args := [d1, d2] }
  | _ => none }
def fnShortsRow : OpenClaim := { program := "ytdhiihmfgmempaa", sum := "16ba5c51682569e92955b52465ffaa54ebeab2b3c279a1ed29c06381706d644f", func := "loop.example/g01173/laws.FnShorts", spec := "fnShorts", inPlace := ["math.Float64frombits", "math.Float32frombits", "math.RoundToEven", "math.Float64bits", "math.Float32bits"], apart := false }
def FnShortsSaid : Prop := fnShortsRow.holds Try.pinned (OpenSpec.ofChange fnShortsSpec)

/-- ITS FALSE NEIGHBOUR: 'it returns false'. Refute it at one input. -/
def fnShortsWrong : ChangeSpec := { name := "fnShorts", fn := fun _ => fun
  | [d1, d2] => { results := [.lit (.bool false)], args := [d1, d2] }
  | _ => none }
def FnShortsWrongFalsely : Prop := fnShortsRow.holds Try.pinned (OpenSpec.ofChange fnShortsWrong)

/-- 'laws.FnExactLogTwo': WHATEVER THE INPUT: true; the input reads as it did. -/
def fnExactLogTwoSpec : ChangeSpec := { name := "fnExactLogTwo", fn := fun _ => fun
  | [d] => { results := [.lit (.bool true)], args := [d] }
  | _ => none }
def fnExactLogTwoRow : OpenClaim := { program := "ytdhiihmfgmempaa", sum := "16ba5c51682569e92955b52465ffaa54ebeab2b3c279a1ed29c06381706d644f", func := "loop.example/g01173/laws.FnExactLogTwo", spec := "fnExactLogTwo", inPlace := ["math.Float64bits", "math.Float64frombits"], apart := false }
def FnExactLogTwoSaid : Prop := fnExactLogTwoRow.holds Try.pinned (OpenSpec.ofChange fnExactLogTwoSpec)

/-- ITS FALSE NEIGHBOUR: 'it returns false'. Refute it at one input. -/
def fnExactLogTwoWrong : ChangeSpec := { name := "fnExactLogTwo", fn := fun _ => fun
  | [d] => { results := [.lit (.bool false)], args := [d] }
  | _ => none }
def FnExactLogTwoWrongFalsely : Prop := fnExactLogTwoRow.holds Try.pinned (OpenSpec.ofChange fnExactLogTwoWrong)

/-- 'laws.FnExactTwoTo': WHATEVER THE INPUT: true; the input reads as it did. -/
def fnExactTwoToSpec : ChangeSpec := { name := "fnExactTwoTo", fn := fun _ => fun
  | [d] => { results := [.lit (.bool true)], args := [d] }
  | _ => none }
def fnExactTwoToRow : OpenClaim := { program := "ytdhiihmfgmempaa", sum := "16ba5c51682569e92955b52465ffaa54ebeab2b3c279a1ed29c06381706d644f", func := "loop.example/g01173/laws.FnExactTwoTo", spec := "fnExactTwoTo", inPlace := ["math.archFloor", "math.Float64bits", "math.Float64frombits", "math.archTrunc"], apart := false }
def FnExactTwoToSaid : Prop := fnExactTwoToRow.holds Try.pinned (OpenSpec.ofChange fnExactTwoToSpec)

/-- ITS FALSE NEIGHBOUR: 'it returns false'. Refute it at one input. -/
def fnExactTwoToWrong : ChangeSpec := { name := "fnExactTwoTo", fn := fun _ => fun
  | [d] => { results := [.lit (.bool false)], args := [d] }
  | _ => none }
def FnExactTwoToWrongFalsely : Prop := fnExactTwoToRow.holds Try.pinned (OpenSpec.ofChange fnExactTwoToWrong)

/-- 'laws.FnExactCentsOf': WHATEVER THE INPUT: true; the input reads as it did. -/
def fnExactCentsOfSpec : ChangeSpec := { name := "fnExactCentsOf", fn := fun _ => fun
  | [d1, d2] => { results := [.lit (.bool true)], args := [d1, d2] }
  | _ => none }
def fnExactCentsOfRow : OpenClaim := { program := "ytdhiihmfgmempaa", sum := "16ba5c51682569e92955b52465ffaa54ebeab2b3c279a1ed29c06381706d644f", func := "loop.example/g01173/laws.FnExactCentsOf", spec := "fnExactCentsOf", inPlace := ["math.Float64bits", "math.Float64frombits"], apart := false }
def FnExactCentsOfSaid : Prop := fnExactCentsOfRow.holds Try.pinned (OpenSpec.ofChange fnExactCentsOfSpec)

/-- ITS FALSE NEIGHBOUR: 'it returns false'. Refute it at one input. -/
def fnExactCentsOfWrong : ChangeSpec := { name := "fnExactCentsOf", fn := fun _ => fun
  | [d1, d2] => { results := [.lit (.bool false)], args := [d1, d2] }
  | _ => none }
def FnExactCentsOfWrongFalsely : Prop := fnExactCentsOfRow.holds Try.pinned (OpenSpec.ofChange fnExactCentsOfWrong)

/-- 'laws.FnExactGlideOf': WHATEVER THE INPUT: true; the input reads as it did. -/
def fnExactGlideOfSpec : ChangeSpec := { name := "fnExactGlideOf", fn := fun _ => fun
  | [d1, d2, d3] => { results := [.lit (.bool true)], args := [d1, d2, d3] }
  | _ => none }
def fnExactGlideOfRow : OpenClaim := { program := "ytdhiihmfgmempaa", sum := "16ba5c51682569e92955b52465ffaa54ebeab2b3c279a1ed29c06381706d644f", func := "loop.example/g01173/laws.FnExactGlideOf", spec := "fnExactGlideOf", inPlace := ["math.archFloor", "math.Float64bits", "math.Float64frombits", "math.archTrunc"], apart := false }
def FnExactGlideOfSaid : Prop := fnExactGlideOfRow.holds Try.pinned (OpenSpec.ofChange fnExactGlideOfSpec)

/-- ITS FALSE NEIGHBOUR: 'it returns false'. Refute it at one input. -/
def fnExactGlideOfWrong : ChangeSpec := { name := "fnExactGlideOf", fn := fun _ => fun
  | [d1, d2, d3] => { results := [.lit (.bool false)], args := [d1, d2, d3] }
  | _ => none }
def FnExactGlideOfWrongFalsely : Prop := fnExactGlideOfRow.holds Try.pinned (OpenSpec.ofChange fnExactGlideOfWrong)

/-- 'laws.FnExactKeyHertz': WHATEVER THE INPUT: true; the input reads as it did. -/
def fnExactKeyHertzSpec : ChangeSpec := { name := "fnExactKeyHertz", fn := fun _ => fun
  | [d1, d2] => { results := [.lit (.bool true)], args := [d1, d2] }
  | _ => none }
def fnExactKeyHertzRow : OpenClaim := { program := "ytdhiihmfgmempaa", sum := "16ba5c51682569e92955b52465ffaa54ebeab2b3c279a1ed29c06381706d644f", func := "loop.example/g01173/laws.FnExactKeyHertz", spec := "fnExactKeyHertz", inPlace := ["math.Float32bits", "math.archFloor", "math.Float64bits", "math.Float64frombits", "math.archTrunc"], apart := false }
def FnExactKeyHertzSaid : Prop := fnExactKeyHertzRow.holds Try.pinned (OpenSpec.ofChange fnExactKeyHertzSpec)

/-- ITS FALSE NEIGHBOUR: 'it returns false'. Refute it at one input. -/
def fnExactKeyHertzWrong : ChangeSpec := { name := "fnExactKeyHertz", fn := fun _ => fun
  | [d1, d2] => { results := [.lit (.bool false)], args := [d1, d2] }
  | _ => none }
def FnExactKeyHertzWrongFalsely : Prop := fnExactKeyHertzRow.holds Try.pinned (OpenSpec.ofChange fnExactKeyHertzWrong)

/-- 'laws.FnExactNearestKey': WHATEVER THE INPUT: true; the input reads as it did. -/
def fnExactNearestKeySpec : ChangeSpec := { name := "fnExactNearestKey", fn := fun _ => fun
  | [d1, d2] => { results := [.lit (.bool true)], args := [d1, d2] }
  | _ => none }
def fnExactNearestKeyRow : OpenClaim := { program := "ytdhiihmfgmempaa", sum := "16ba5c51682569e92955b52465ffaa54ebeab2b3c279a1ed29c06381706d644f", func := "loop.example/g01173/laws.FnExactNearestKey", spec := "fnExactNearestKey", inPlace := ["math.Float32bits", "math.archFloor", "math.Float64bits", "math.Float64frombits", "math.archTrunc", "math.Float32frombits"], apart := false }
def FnExactNearestKeySaid : Prop := fnExactNearestKeyRow.holds Try.pinned (OpenSpec.ofChange fnExactNearestKeySpec)

/-- ITS FALSE NEIGHBOUR: 'it returns false'. Refute it at one input. -/
def fnExactNearestKeyWrong : ChangeSpec := { name := "fnExactNearestKey", fn := fun _ => fun
  | [d1, d2] => { results := [.lit (.bool false)], args := [d1, d2] }
  | _ => none }
def FnExactNearestKeyWrongFalsely : Prop := fnExactNearestKeyRow.holds Try.pinned (OpenSpec.ofChange fnExactNearestKeyWrong)

/-- 'laws.FnExactPeriodOfKey': WHATEVER THE INPUT: true; the input reads as it did. -/
def fnExactPeriodOfKeySpec : ChangeSpec := { name := "fnExactPeriodOfKey", fn := fun _ => fun
  | [d1, d2, d3] => { results := [.lit (.bool true)], args := [d1, d2, d3] }
  | _ => none }
def fnExactPeriodOfKeyRow : OpenClaim := { program := "ytdhiihmfgmempaa", sum := "16ba5c51682569e92955b52465ffaa54ebeab2b3c279a1ed29c06381706d644f", func := "loop.example/g01173/laws.FnExactPeriodOfKey", spec := "fnExactPeriodOfKey", inPlace := ["math.Float32bits", "math.archFloor", "math.Float64bits", "math.Float64frombits", "math.archTrunc"], apart := false }
def FnExactPeriodOfKeySaid : Prop := fnExactPeriodOfKeyRow.holds Try.pinned (OpenSpec.ofChange fnExactPeriodOfKeySpec)

/-- ITS FALSE NEIGHBOUR: 'it returns false'. Refute it at one input. -/
def fnExactPeriodOfKeyWrong : ChangeSpec := { name := "fnExactPeriodOfKey", fn := fun _ => fun
  | [d1, d2, d3] => { results := [.lit (.bool false)], args := [d1, d2, d3] }
  | _ => none }
def FnExactPeriodOfKeyWrongFalsely : Prop := fnExactPeriodOfKeyRow.holds Try.pinned (OpenSpec.ofChange fnExactPeriodOfKeyWrong)

/-- 'laws.FnExactTurnTuning': WHATEVER THE INPUT: true; the input reads as it did. -/
def fnExactTurnTuningSpec : ChangeSpec := { name := "fnExactTurnTuning", fn := fun _ => fun
  | [d1, d2] => { results := [.lit (.bool true)], args := [d1, d2] }
  | _ => none }
def fnExactTurnTuningRow : OpenClaim := { program := "ytdhiihmfgmempaa", sum := "16ba5c51682569e92955b52465ffaa54ebeab2b3c279a1ed29c06381706d644f", func := "loop.example/g01173/laws.FnExactTurnTuning", spec := "fnExactTurnTuning", inPlace := ["math.Float32bits", "math.archFloor", "math.Float64bits", "math.Float64frombits", "math.archTrunc"], apart := false }
def FnExactTurnTuningSaid : Prop := fnExactTurnTuningRow.holds Try.pinned (OpenSpec.ofChange fnExactTurnTuningSpec)

/-- ITS FALSE NEIGHBOUR: 'it returns false'. Refute it at one input. -/
def fnExactTurnTuningWrong : ChangeSpec := { name := "fnExactTurnTuning", fn := fun _ => fun
  | [d1, d2] => { results := [.lit (.bool false)], args := [d1, d2] }
  | _ => none }
def FnExactTurnTuningWrongFalsely : Prop := fnExactTurnTuningRow.holds Try.pinned (OpenSpec.ofChange fnExactTurnTuningWrong)

/- THE SECOND FORM. 'bulk': how many values and letters a reading holds, each counted each time it is reached (what is shared counts as often as it is met; a slice's spare places count too). A statement '..UptoSaid' is the law's where the arguments, and the package variables that the reading takes, are together of bulk at most 1048576: NARROWER than '..Said'. Prove '..Said' where nothing that the law and all that it calls make is longer than what came in: it says more and counts as full. Else prove '..UptoSaid'. A law counts once. -/
mutual
def uptoBulk {H : Type} : DataW H → Nat
  | .lit (.string bytes) => bytes.length + 1
  | .lit _ => 1
  | .nil => 1
  | .ptr d => uptoBulk d + 1
  | .slice elems spare => uptoBulkAll elems + uptoBulkAll spare + 1
  | .agg parts => uptoBulkAll parts + 1
  | .iface _ d => uptoBulk d + 1
  | .map entries => uptoBulkEntries entries + 1
  | .held _ => 1
def uptoBulkAll {H : Type} : List (DataW H) → Nat
  | [] => 0
  | d :: r => uptoBulk d + uptoBulkAll r
def uptoBulkEntries {H : Type} : List (Lit × DataW H) → Nat
  | [] => 0
  | x :: r => uptoBulkEntry x + uptoBulkEntries r
def uptoBulkEntry {H : Type} : Lit × DataW H → Nat
  | (.string bytes, d) => bytes.length + uptoBulk d + 1
  | (_, d) => uptoBulk d + 1
 end
def uptoSmall : (H : Type) → List (DataW H) → Bool := fun _ ds => decide (uptoBulkAll ds ≤ 1048576)
def OpenSpec.upto (s : _root_.Go.ChangeSpec) : _root_.Go.OpenSpec := { _root_.Go.OpenSpec.ofChange s with cond := some uptoSmall }

/-- 'laws.FnExactFrictionTable', WHERE WHAT IT READS IS OF BULK AT MOST 1048576: true; the input reads as it did. -/
def fnExactFrictionTableUptoRow : OpenClaim := { program := "ytdhiihmfgmempaa", sum := "16ba5c51682569e92955b52465ffaa54ebeab2b3c279a1ed29c06381706d644f", func := "loop.example/g01173/laws.FnExactFrictionTable", spec := "fnExactFrictionTable", inPlace := ["math.Float32bits", "math.Float32frombits", "math.Float64bits", "math.Float64frombits"], apart := false, narrowed := true }
def FnExactFrictionTableUptoSaid : Prop := fnExactFrictionTableUptoRow.holds Try.pinned (OpenSpec.upto fnExactFrictionTableSpec)

/-- 'laws.FnExactEqualTuning', WHERE WHAT IT READS IS OF BULK AT MOST 1048576: true; the input reads as it did. -/
def fnExactEqualTuningUptoRow : OpenClaim := { program := "ytdhiihmfgmempaa", sum := "16ba5c51682569e92955b52465ffaa54ebeab2b3c279a1ed29c06381706d644f", func := "loop.example/g01173/laws.FnExactEqualTuning", spec := "fnExactEqualTuning", apart := false, narrowed := true }
def FnExactEqualTuningUptoSaid : Prop := fnExactEqualTuningUptoRow.holds Try.pinned (OpenSpec.upto fnExactEqualTuningSpec)

/-- 'laws.FnExactValidTuning', WHERE WHAT IT READS IS OF BULK AT MOST 1048576: true; the input reads as it did. -/
def fnExactValidTuningUptoRow : OpenClaim := { program := "ytdhiihmfgmempaa", sum := "16ba5c51682569e92955b52465ffaa54ebeab2b3c279a1ed29c06381706d644f", func := "loop.example/g01173/laws.FnExactValidTuning", spec := "fnExactValidTuning", inPlace := ["math.Float32bits"], apart := false, narrowed := true }
def FnExactValidTuningUptoSaid : Prop := fnExactValidTuningUptoRow.holds Try.pinned (OpenSpec.upto fnExactValidTuningSpec)

/-- 'laws.FnExactSameTuning', WHERE WHAT IT READS IS OF BULK AT MOST 1048576: true; the input reads as it did. -/
def fnExactSameTuningUptoRow : OpenClaim := { program := "ytdhiihmfgmempaa", sum := "16ba5c51682569e92955b52465ffaa54ebeab2b3c279a1ed29c06381706d644f", func := "loop.example/g01173/laws.FnExactSameTuning", spec := "fnExactSameTuning", inPlace := ["math.Float32bits"], unfollowed := true, recurses := true, apart := false, narrowed := true }
def FnExactSameTuningUptoSaid : Prop := fnExactSameTuningUptoRow.holds Try.pinned (OpenSpec.upto fnExactSameTuningSpec)

/-- 'laws.FnExactValidComb', WHERE WHAT IT READS IS OF BULK AT MOST 1048576: true; the input reads as it did. -/
def fnExactValidCombUptoRow : OpenClaim := { program := "ytdhiihmfgmempaa", sum := "16ba5c51682569e92955b52465ffaa54ebeab2b3c279a1ed29c06381706d644f", func := "loop.example/g01173/laws.FnExactValidComb", spec := "fnExactValidComb", unfollowed := true, recurses := true, apart := false, narrowed := true }
def FnExactValidCombUptoSaid : Prop := fnExactValidCombUptoRow.holds Try.pinned (OpenSpec.upto fnExactValidCombSpec)

/-- 'laws.FnExactKeyCents', WHERE WHAT IT READS IS OF BULK AT MOST 1048576: true; the input reads as it did. -/
def fnExactKeyCentsUptoRow : OpenClaim := { program := "ytdhiihmfgmempaa", sum := "16ba5c51682569e92955b52465ffaa54ebeab2b3c279a1ed29c06381706d644f", func := "loop.example/g01173/laws.FnExactKeyCents", spec := "fnExactKeyCents", inPlace := ["math.Float32bits"], apart := false, narrowed := true }
def FnExactKeyCentsUptoSaid : Prop := fnExactKeyCentsUptoRow.holds Try.pinned (OpenSpec.upto fnExactKeyCentsSpec)

/-- 'laws.FnShorts', WHERE WHAT IT READS IS OF BULK AT MOST 1048576: true; the input reads as it did. -/
def fnShortsUptoRow : OpenClaim := { program := "ytdhiihmfgmempaa", sum := "16ba5c51682569e92955b52465ffaa54ebeab2b3c279a1ed29c06381706d644f", func := "loop.example/g01173/laws.FnShorts", spec := "fnShorts", inPlace := ["math.Float64frombits", "math.Float32frombits", "math.RoundToEven", "math.Float64bits", "math.Float32bits"], apart := false, narrowed := true }
def FnShortsUptoSaid : Prop := fnShortsUptoRow.holds Try.pinned (OpenSpec.upto fnShortsSpec)

/-- 'laws.FnExactLogTwo', WHERE WHAT IT READS IS OF BULK AT MOST 1048576: true; the input reads as it did. -/
def fnExactLogTwoUptoRow : OpenClaim := { program := "ytdhiihmfgmempaa", sum := "16ba5c51682569e92955b52465ffaa54ebeab2b3c279a1ed29c06381706d644f", func := "loop.example/g01173/laws.FnExactLogTwo", spec := "fnExactLogTwo", inPlace := ["math.Float64bits", "math.Float64frombits"], apart := false, narrowed := true }
def FnExactLogTwoUptoSaid : Prop := fnExactLogTwoUptoRow.holds Try.pinned (OpenSpec.upto fnExactLogTwoSpec)

/-- 'laws.FnExactTwoTo', WHERE WHAT IT READS IS OF BULK AT MOST 1048576: true; the input reads as it did. -/
def fnExactTwoToUptoRow : OpenClaim := { program := "ytdhiihmfgmempaa", sum := "16ba5c51682569e92955b52465ffaa54ebeab2b3c279a1ed29c06381706d644f", func := "loop.example/g01173/laws.FnExactTwoTo", spec := "fnExactTwoTo", inPlace := ["math.archFloor", "math.Float64bits", "math.Float64frombits", "math.archTrunc"], apart := false, narrowed := true }
def FnExactTwoToUptoSaid : Prop := fnExactTwoToUptoRow.holds Try.pinned (OpenSpec.upto fnExactTwoToSpec)

/-- 'laws.FnExactCentsOf', WHERE WHAT IT READS IS OF BULK AT MOST 1048576: true; the input reads as it did. -/
def fnExactCentsOfUptoRow : OpenClaim := { program := "ytdhiihmfgmempaa", sum := "16ba5c51682569e92955b52465ffaa54ebeab2b3c279a1ed29c06381706d644f", func := "loop.example/g01173/laws.FnExactCentsOf", spec := "fnExactCentsOf", inPlace := ["math.Float64bits", "math.Float64frombits"], apart := false, narrowed := true }
def FnExactCentsOfUptoSaid : Prop := fnExactCentsOfUptoRow.holds Try.pinned (OpenSpec.upto fnExactCentsOfSpec)

/-- 'laws.FnExactGlideOf', WHERE WHAT IT READS IS OF BULK AT MOST 1048576: true; the input reads as it did. -/
def fnExactGlideOfUptoRow : OpenClaim := { program := "ytdhiihmfgmempaa", sum := "16ba5c51682569e92955b52465ffaa54ebeab2b3c279a1ed29c06381706d644f", func := "loop.example/g01173/laws.FnExactGlideOf", spec := "fnExactGlideOf", inPlace := ["math.archFloor", "math.Float64bits", "math.Float64frombits", "math.archTrunc"], apart := false, narrowed := true }
def FnExactGlideOfUptoSaid : Prop := fnExactGlideOfUptoRow.holds Try.pinned (OpenSpec.upto fnExactGlideOfSpec)

/-- 'laws.FnExactKeyHertz', WHERE WHAT IT READS IS OF BULK AT MOST 1048576: true; the input reads as it did. -/
def fnExactKeyHertzUptoRow : OpenClaim := { program := "ytdhiihmfgmempaa", sum := "16ba5c51682569e92955b52465ffaa54ebeab2b3c279a1ed29c06381706d644f", func := "loop.example/g01173/laws.FnExactKeyHertz", spec := "fnExactKeyHertz", inPlace := ["math.Float32bits", "math.archFloor", "math.Float64bits", "math.Float64frombits", "math.archTrunc"], apart := false, narrowed := true }
def FnExactKeyHertzUptoSaid : Prop := fnExactKeyHertzUptoRow.holds Try.pinned (OpenSpec.upto fnExactKeyHertzSpec)

/-- 'laws.FnExactNearestKey', WHERE WHAT IT READS IS OF BULK AT MOST 1048576: true; the input reads as it did. -/
def fnExactNearestKeyUptoRow : OpenClaim := { program := "ytdhiihmfgmempaa", sum := "16ba5c51682569e92955b52465ffaa54ebeab2b3c279a1ed29c06381706d644f", func := "loop.example/g01173/laws.FnExactNearestKey", spec := "fnExactNearestKey", inPlace := ["math.Float32bits", "math.archFloor", "math.Float64bits", "math.Float64frombits", "math.archTrunc", "math.Float32frombits"], apart := false, narrowed := true }
def FnExactNearestKeyUptoSaid : Prop := fnExactNearestKeyUptoRow.holds Try.pinned (OpenSpec.upto fnExactNearestKeySpec)

/-- 'laws.FnExactPeriodOfKey', WHERE WHAT IT READS IS OF BULK AT MOST 1048576: true; the input reads as it did. -/
def fnExactPeriodOfKeyUptoRow : OpenClaim := { program := "ytdhiihmfgmempaa", sum := "16ba5c51682569e92955b52465ffaa54ebeab2b3c279a1ed29c06381706d644f", func := "loop.example/g01173/laws.FnExactPeriodOfKey", spec := "fnExactPeriodOfKey", inPlace := ["math.Float32bits", "math.archFloor", "math.Float64bits", "math.Float64frombits", "math.archTrunc"], apart := false, narrowed := true }
def FnExactPeriodOfKeyUptoSaid : Prop := fnExactPeriodOfKeyUptoRow.holds Try.pinned (OpenSpec.upto fnExactPeriodOfKeySpec)

/-- 'laws.FnExactTurnTuning', WHERE WHAT IT READS IS OF BULK AT MOST 1048576: true; the input reads as it did. -/
def fnExactTurnTuningUptoRow : OpenClaim := { program := "ytdhiihmfgmempaa", sum := "16ba5c51682569e92955b52465ffaa54ebeab2b3c279a1ed29c06381706d644f", func := "loop.example/g01173/laws.FnExactTurnTuning", spec := "fnExactTurnTuning", inPlace := ["math.Float32bits", "math.archFloor", "math.Float64bits", "math.Float64frombits", "math.archTrunc"], apart := false, narrowed := true }
def FnExactTurnTuningUptoSaid : Prop := fnExactTurnTuningUptoRow.holds Try.pinned (OpenSpec.upto fnExactTurnTuningSpec)

end Rows
end Go.Proofs.Ytdhiihmfgmempaa
