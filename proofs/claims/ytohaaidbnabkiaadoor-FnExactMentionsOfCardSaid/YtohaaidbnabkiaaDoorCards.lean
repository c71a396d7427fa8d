/-
  DERIVED. GIVEN WITH THE SEED: THE CARDS: each row of YtohaaidbnabkiaaDoorRows.lean that lists a variable, with what it lists TIED to the program's text (the seventh form; the later family's looks); each row that meets fmt, with fmt's text TOLD by the authors' own Lean function (tested against real Go, not proved from fmt's source: count such statements apart). THE CARD IS WHAT COUNTS. Prove the row's statement (the work); the ties are given (YtohaaidbnabkiaaDoorTie.lean); close each card by the builder's one call (the guide's Derived/Test/ToyasCard.lean, 'card_holds'). Laid BY PROGRAM, IN A SANDBOX (cutbox-door.mjs). By AI agents, Wed Nov 11 2026. No macro, syntax, notation, axiom, sorry.
-/
import Derived.Test.YtohaaidbnabkiaaDoorRows
import GoSem.ClaimSeven
namespace Go.Proofs.YtohaaidbnabkiaaDoor
namespace Rows

/-- THE TIED CARD OF 'laws.FnExactMentionsOf'. -/
def fnExactMentionsOfCard : Claim7 := { stood := { row := fnExactMentionsOfRow, standIns := [], harness := (true, "4c154c4a704b4a1204a7b76018165995b85121322387d9b96698ad60b5d0ee49"), looks := true }, kinds := [], alts := [], laidByText := true, laidKinds := [.data, .data, .data, .sentinel, .sentinel], laidTests := true, laidLooks := .later }
def FnExactMentionsOfCardSaid : Prop := Claim7.holds Tryd.pinned (.plain (OpenSpec.ofChange fnExactMentionsOfSpec)) fnExactMentionsOfCard

/-- THE TIED CARD OF 'laws.FnDigests'. -/
def fnDigestsCard : Claim7 := { stood := { row := fnDigestsRow, standIns := [], harness := (true, "4c154c4a704b4a1204a7b76018165995b85121322387d9b96698ad60b5d0ee49"), looks := true }, kinds := [], alts := [], laidByText := true, laidKinds := [.data, .data, .data, .data, .sentinel, .sentinel, .pinned], laidTests := true, laidLooks := .later }
def FnDigestsCardSaid : Prop := Claim7.holds Tryd.pinned (.plain (OpenSpec.ofChange fnDigestsSpec)) fnDigestsCard

/-- THE SECOND FORM's CARD OF 'laws.FnExactMentionsOf'. -/
def fnExactMentionsOfUptoCard : Claim7 := { stood := { row := fnExactMentionsOfUptoRow, standIns := [], harness := (true, "4c154c4a704b4a1204a7b76018165995b85121322387d9b96698ad60b5d0ee49"), looks := true }, kinds := [], alts := [], laidByText := true, laidKinds := [.data, .data, .data, .sentinel, .sentinel], laidTests := true, laidLooks := .later }
def FnExactMentionsOfUptoCardSaid : Prop := Claim7.holds Tryd.pinned (.plain (OpenSpec.upto fnExactMentionsOfSpec)) fnExactMentionsOfUptoCard

/-- THE SECOND FORM's CARD OF 'laws.FnDigests'. -/
def fnDigestsUptoCard : Claim7 := { stood := { row := fnDigestsUptoRow, standIns := [], harness := (true, "4c154c4a704b4a1204a7b76018165995b85121322387d9b96698ad60b5d0ee49"), looks := true }, kinds := [], alts := [], laidByText := true, laidKinds := [.data, .data, .data, .data, .sentinel, .sentinel, .pinned], laidTests := true, laidLooks := .later }
def FnDigestsUptoCardSaid : Prop := Claim7.holds Tryd.pinned (.plain (OpenSpec.upto fnDigestsSpec)) fnDigestsUptoCard
end Rows
end Go.Proofs.YtohaaidbnabkiaaDoor
