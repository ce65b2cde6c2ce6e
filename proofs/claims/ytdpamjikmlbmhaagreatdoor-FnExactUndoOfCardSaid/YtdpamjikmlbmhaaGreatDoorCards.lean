/-
  DERIVED. GIVEN WITH THE SEED: THE CARDS: each row of YtdpamjikmlbmhaaGreatDoorRows.lean that lists a variable, with what it lists TIED to the program's text (the seventh form; the later family's looks); each row that meets fmt, with fmt's text TOLD by the authors' own Lean function (tested against real Go, not proved from fmt's source: count such statements apart). THE CARD IS WHAT COUNTS. Prove the row's statement (the work); the ties are given (YtdpamjikmlbmhaaGreatDoorTie.lean); close each card by the builder's one call (the guide's Derived/Test/ToyasCard.lean, 'card_holds'). Laid BY PROGRAM, IN A SANDBOX (cutbox-door.mjs). By AI agents, Wed Nov 11 2026. No macro, syntax, notation, axiom, sorry.
-/
import Derived.Test.YtdpamjikmlbmhaaGreatDoorRows
import GoSem.ClaimSeven
namespace Go.Proofs.YtdpamjikmlbmhaaGreatDoor
namespace Rows

/-- THE TIED CARD OF 'laws.FnExactSplitGraph'. -/
def fnExactSplitGraphCard : Claim7 := { stood := { row := fnExactSplitGraphRow, standIns := [], harness := (true, "0d5c463c70232c55fbc946d6f95edfb917d3fc85c2a49e9999227abdde249873"), looks := true }, kinds := [], alts := [], laidByText := true, laidKinds := [.data, .data, .data, .sentinel, .sentinel], laidTests := true, laidLooks := .later }
def FnExactSplitGraphCardSaid : Prop := Claim7.holds Tryz.pinned (.plain (OpenSpec.ofChange fnExactSplitGraphSpec)) fnExactSplitGraphCard

/-- THE TIED CARD OF 'laws.FnExactDiffGraphs'. -/
def fnExactDiffGraphsCard : Claim7 := { stood := { row := fnExactDiffGraphsRow, standIns := [], harness := (true, "0d5c463c70232c55fbc946d6f95edfb917d3fc85c2a49e9999227abdde249873"), looks := true }, kinds := [], alts := [], laidByText := true, laidKinds := [.data, .data, .data, .sentinel, .sentinel], laidTests := true, laidLooks := .later }
def FnExactDiffGraphsCardSaid : Prop := Claim7.holds Tryz.pinned (.plain (OpenSpec.ofChange fnExactDiffGraphsSpec)) fnExactDiffGraphsCard

/-- THE TIED CARD OF 'laws.FnExactJoinGraphs'. -/
def fnExactJoinGraphsCard : Claim7 := { stood := { row := fnExactJoinGraphsRow, standIns := [], harness := (true, "0d5c463c70232c55fbc946d6f95edfb917d3fc85c2a49e9999227abdde249873"), looks := true }, kinds := [], alts := [], laidByText := true, laidKinds := [.data, .data, .data, .sentinel, .sentinel], laidTests := true, laidLooks := .later }
def FnExactJoinGraphsCardSaid : Prop := Claim7.holds Tryz.pinned (.plain (OpenSpec.ofChange fnExactJoinGraphsSpec)) fnExactJoinGraphsCard

/-- THE TIED CARD OF 'laws.FnExactApplyChanges'. -/
def fnExactApplyChangesCard : Claim7 := { stood := { row := fnExactApplyChangesRow, standIns := [], harness := (true, "0d5c463c70232c55fbc946d6f95edfb917d3fc85c2a49e9999227abdde249873"), looks := true }, kinds := [], alts := [], laidByText := true, laidKinds := [.data, .data, .data, .sentinel, .sentinel], laidTests := true, laidLooks := .later }
def FnExactApplyChangesCardSaid : Prop := Claim7.holds Tryz.pinned (.plain (OpenSpec.ofChange fnExactApplyChangesSpec)) fnExactApplyChangesCard

/-- THE TIED CARD OF 'laws.FnExactUndoOf'. -/
def fnExactUndoOfCard : Claim7 := { stood := { row := fnExactUndoOfRow, standIns := [], harness := (true, "0d5c463c70232c55fbc946d6f95edfb917d3fc85c2a49e9999227abdde249873"), looks := true }, kinds := [], alts := [], laidByText := true, laidKinds := [.data, .data, .data, .sentinel, .sentinel], laidTests := true, laidLooks := .later }
def FnExactUndoOfCardSaid : Prop := Claim7.holds Tryz.pinned (.plain (OpenSpec.ofChange fnExactUndoOfSpec)) fnExactUndoOfCard

/-- THE SECOND FORM's CARD OF 'laws.FnExactSplitGraph'. -/
def fnExactSplitGraphUptoCard : Claim7 := { stood := { row := fnExactSplitGraphUptoRow, standIns := [], harness := (true, "0d5c463c70232c55fbc946d6f95edfb917d3fc85c2a49e9999227abdde249873"), looks := true }, kinds := [], alts := [], laidByText := true, laidKinds := [.data, .data, .data, .sentinel, .sentinel], laidTests := true, laidLooks := .later }
def FnExactSplitGraphUptoCardSaid : Prop := Claim7.holds Tryz.pinned (.plain (OpenSpec.upto fnExactSplitGraphSpec)) fnExactSplitGraphUptoCard

/-- THE SECOND FORM's CARD OF 'laws.FnExactDiffGraphs'. -/
def fnExactDiffGraphsUptoCard : Claim7 := { stood := { row := fnExactDiffGraphsUptoRow, standIns := [], harness := (true, "0d5c463c70232c55fbc946d6f95edfb917d3fc85c2a49e9999227abdde249873"), looks := true }, kinds := [], alts := [], laidByText := true, laidKinds := [.data, .data, .data, .sentinel, .sentinel], laidTests := true, laidLooks := .later }
def FnExactDiffGraphsUptoCardSaid : Prop := Claim7.holds Tryz.pinned (.plain (OpenSpec.upto fnExactDiffGraphsSpec)) fnExactDiffGraphsUptoCard

/-- THE SECOND FORM's CARD OF 'laws.FnExactJoinGraphs'. -/
def fnExactJoinGraphsUptoCard : Claim7 := { stood := { row := fnExactJoinGraphsUptoRow, standIns := [], harness := (true, "0d5c463c70232c55fbc946d6f95edfb917d3fc85c2a49e9999227abdde249873"), looks := true }, kinds := [], alts := [], laidByText := true, laidKinds := [.data, .data, .data, .sentinel, .sentinel], laidTests := true, laidLooks := .later }
def FnExactJoinGraphsUptoCardSaid : Prop := Claim7.holds Tryz.pinned (.plain (OpenSpec.upto fnExactJoinGraphsSpec)) fnExactJoinGraphsUptoCard

/-- THE SECOND FORM's CARD OF 'laws.FnExactApplyChanges'. -/
def fnExactApplyChangesUptoCard : Claim7 := { stood := { row := fnExactApplyChangesUptoRow, standIns := [], harness := (true, "0d5c463c70232c55fbc946d6f95edfb917d3fc85c2a49e9999227abdde249873"), looks := true }, kinds := [], alts := [], laidByText := true, laidKinds := [.data, .data, .data, .sentinel, .sentinel], laidTests := true, laidLooks := .later }
def FnExactApplyChangesUptoCardSaid : Prop := Claim7.holds Tryz.pinned (.plain (OpenSpec.upto fnExactApplyChangesSpec)) fnExactApplyChangesUptoCard

/-- THE SECOND FORM's CARD OF 'laws.FnExactUndoOf'. -/
def fnExactUndoOfUptoCard : Claim7 := { stood := { row := fnExactUndoOfUptoRow, standIns := [], harness := (true, "0d5c463c70232c55fbc946d6f95edfb917d3fc85c2a49e9999227abdde249873"), looks := true }, kinds := [], alts := [], laidByText := true, laidKinds := [.data, .data, .data, .sentinel, .sentinel], laidTests := true, laidLooks := .later }
def FnExactUndoOfUptoCardSaid : Prop := Claim7.holds Tryz.pinned (.plain (OpenSpec.upto fnExactUndoOfSpec)) fnExactUndoOfUptoCard
end Rows
end Go.Proofs.YtdpamjikmlbmhaaGreatDoor
