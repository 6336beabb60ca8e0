/-
  DERIVED. GIVEN WITH THE SEED: THE CARDS: each row of YtbdanadmabemdaaDoorRows.lean that lists a variable, with what it lists TIED to the program's text (the seventh form; the later family's looks); each row that meets fmt, with fmt's text TOLD by the authors' own Lean function (tested against real Go, not proved from fmt's source: count such statements apart). THE CARD IS WHAT COUNTS. Prove the row's statement (the work); the ties are given (YtbdanadmabemdaaDoorTie.lean); close each card by the builder's one call (the guide's Derived/Test/ToyasCard.lean, 'card_holds'). Laid BY PROGRAM, IN A SANDBOX (cutbox-door.mjs). By AI agents, Wed Nov 11 2026. No macro, syntax, notation, axiom, sorry.
-/
import Derived.Test.YtbdanadmabemdaaDoorRows
import GoSem.ClaimSeven
namespace Go.Proofs.YtbdanadmabemdaaDoor
namespace Rows

/-- THE TIED CARD OF 'laws.FnExactBowText'. -/
def fnExactBowTextCard : Claim7 := { stood := { row := fnExactBowTextRow, standIns := [], harness := (true, "7b48e43565fbcb7c49f3c81aadf58be0b5916a475f8b6ed2f70664c79c8e0e86"), looks := false }, kinds := [], alts := [], laidByText := true, laidKinds := [.data, .data, .data], laidTests := true, laidLooks := .later }
def FnExactBowTextCardSaid : Prop := Claim7.holds Tryd.pinned (.plain (OpenSpec.ofChange fnExactBowTextSpec)) fnExactBowTextCard

/-- THE TIED CARD OF 'laws.FnExactJetText'. -/
def fnExactJetTextCard : Claim7 := { stood := { row := fnExactJetTextRow, standIns := [], harness := (true, "7b48e43565fbcb7c49f3c81aadf58be0b5916a475f8b6ed2f70664c79c8e0e86"), looks := false }, kinds := [], alts := [], laidByText := true, laidKinds := [.data, .data, .data], laidTests := true, laidLooks := .later }
def FnExactJetTextCardSaid : Prop := Claim7.holds Tryd.pinned (.plain (OpenSpec.ofChange fnExactJetTextSpec)) fnExactJetTextCard

/-- THE TIED CARD OF 'laws.FnExactPipeText'. -/
def fnExactPipeTextCard : Claim7 := { stood := { row := fnExactPipeTextRow, standIns := [], harness := (true, "7b48e43565fbcb7c49f3c81aadf58be0b5916a475f8b6ed2f70664c79c8e0e86"), looks := false }, kinds := [], alts := [], laidByText := true, laidKinds := [.data, .data, .data], laidTests := true, laidLooks := .later }
def FnExactPipeTextCardSaid : Prop := Claim7.holds Tryd.pinned (.plain (OpenSpec.ofChange fnExactPipeTextSpec)) fnExactPipeTextCard

/-- THE SECOND FORM's CARD OF 'laws.FnExactBowText'. -/
def fnExactBowTextUptoCard : Claim7 := { stood := { row := fnExactBowTextUptoRow, standIns := [], harness := (true, "7b48e43565fbcb7c49f3c81aadf58be0b5916a475f8b6ed2f70664c79c8e0e86"), looks := false }, kinds := [], alts := [], laidByText := true, laidKinds := [.data, .data, .data], laidTests := true, laidLooks := .later }
def FnExactBowTextUptoCardSaid : Prop := Claim7.holds Tryd.pinned (.plain (OpenSpec.upto fnExactBowTextSpec)) fnExactBowTextUptoCard

/-- THE SECOND FORM's CARD OF 'laws.FnExactJetText'. -/
def fnExactJetTextUptoCard : Claim7 := { stood := { row := fnExactJetTextUptoRow, standIns := [], harness := (true, "7b48e43565fbcb7c49f3c81aadf58be0b5916a475f8b6ed2f70664c79c8e0e86"), looks := false }, kinds := [], alts := [], laidByText := true, laidKinds := [.data, .data, .data], laidTests := true, laidLooks := .later }
def FnExactJetTextUptoCardSaid : Prop := Claim7.holds Tryd.pinned (.plain (OpenSpec.upto fnExactJetTextSpec)) fnExactJetTextUptoCard

/-- THE SECOND FORM's CARD OF 'laws.FnExactPipeText'. -/
def fnExactPipeTextUptoCard : Claim7 := { stood := { row := fnExactPipeTextUptoRow, standIns := [], harness := (true, "7b48e43565fbcb7c49f3c81aadf58be0b5916a475f8b6ed2f70664c79c8e0e86"), looks := false }, kinds := [], alts := [], laidByText := true, laidKinds := [.data, .data, .data], laidTests := true, laidLooks := .later }
def FnExactPipeTextUptoCardSaid : Prop := Claim7.holds Tryd.pinned (.plain (OpenSpec.upto fnExactPipeTextSpec)) fnExactPipeTextUptoCard
end Rows
end Go.Proofs.YtbdanadmabemdaaDoor
