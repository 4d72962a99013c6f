/-
  DERIVED. GIVEN WITH THE SEED: THE CARDS: each row of YtldepdaglapdeaaDoorRows.lean that lists a variable, with what it lists TIED to the program's text (the seventh form; the later family's looks); each row that meets fmt, with fmt's text TOLD by the authors' own Lean function (tested against real Go, not proved from fmt's source: count such statements apart). THE CARD IS WHAT COUNTS. Prove the row's statement (the work); the ties are given (YtldepdaglapdeaaDoorTie.lean); close each card by the builder's one call (the guide's Derived/Test/ToyasCard.lean, 'card_holds'). Laid BY PROGRAM, IN A SANDBOX (cutbox-door.mjs). By AI agents, Wed Nov 11 2026. No macro, syntax, notation, axiom, sorry.
-/
import Derived.Test.YtldepdaglapdeaaDoorRows
import GoSem.ClaimSeven
namespace Go.Proofs.YtldepdaglapdeaaDoor
namespace Rows

/-- THE TIED CARD OF 'laws.FnExactGroupsNames'. -/
def fnExactGroupsNamesCard : Claim7 := { stood := { row := fnExactGroupsNamesRow, standIns := [], harness := (true, "9c2ca3b281ff8b19e89753c35a89049fb06d3d2b12adf947c3dc278620679448"), looks := false }, kinds := [], alts := [], laidByText := true, laidKinds := [.data, .data, .pinned, .pinned], laidTests := true, laidLooks := .later }
def FnExactGroupsNamesCardSaid : Prop := Claim7.holds Tryd.pinned (.plain (OpenSpec.ofChange fnExactGroupsNamesSpec)) fnExactGroupsNamesCard

/-- THE TIED CARD OF 'laws.FnExactGroupsRead'. -/
def fnExactGroupsReadCard : Claim7 := { stood := { row := fnExactGroupsReadRow, standIns := [], harness := (true, "9c2ca3b281ff8b19e89753c35a89049fb06d3d2b12adf947c3dc278620679448"), looks := false }, kinds := [], alts := [], laidByText := true, laidKinds := [.data, .data, .pinned, .pinned], laidTests := true, laidLooks := .later }
def FnExactGroupsReadCardSaid : Prop := Claim7.holds Tryd.pinned (.plain (OpenSpec.ofChange fnExactGroupsReadSpec)) fnExactGroupsReadCard

/-- THE TIED CARD OF 'laws.FnGroups'. -/
def fnGroupsCard : Claim7 := { stood := { row := fnGroupsRow, standIns := [], harness := (true, "9c2ca3b281ff8b19e89753c35a89049fb06d3d2b12adf947c3dc278620679448"), looks := false }, kinds := [], alts := [], laidByText := true, laidKinds := [.data, .data, .pinned, .pinned], laidTests := true, laidLooks := .later }
def FnGroupsCardSaid : Prop := Claim7.holds Tryd.pinned (.plain (OpenSpec.ofChange fnGroupsSpec)) fnGroupsCard

/-- THE TIED CARD OF 'laws.FnGroupsCut'. -/
def fnGroupsCutCard : Claim7 := { stood := { row := fnGroupsCutRow, standIns := [], harness := (true, "9c2ca3b281ff8b19e89753c35a89049fb06d3d2b12adf947c3dc278620679448"), looks := false }, kinds := [], alts := [], laidByText := true, laidKinds := [.data, .data, .pinned, .pinned], laidTests := true, laidLooks := .later }
def FnGroupsCutCardSaid : Prop := Claim7.holds Tryd.pinned (.plain (OpenSpec.ofChange fnGroupsCutSpec)) fnGroupsCutCard

/-- THE TIED CARD OF 'laws.FnNeumeContour'. -/
def fnNeumeContourCard : Claim7 := { stood := { row := fnNeumeContourRow, standIns := [], harness := (true, "9c2ca3b281ff8b19e89753c35a89049fb06d3d2b12adf947c3dc278620679448"), looks := false }, kinds := [], alts := [], laidByText := true, laidKinds := [.data, .data, .pinned, .pinned], laidTests := true, laidLooks := .later }
def FnNeumeContourCardSaid : Prop := Claim7.holds Tryd.pinned (.plain (OpenSpec.ofChange fnNeumeContourSpec)) fnNeumeContourCard

/-- THE TIED CARD OF 'laws.FnGroupsRead'. -/
def fnGroupsReadCard : Claim7 := { stood := { row := fnGroupsReadRow, standIns := [], harness := (true, "9c2ca3b281ff8b19e89753c35a89049fb06d3d2b12adf947c3dc278620679448"), looks := false }, kinds := [], alts := [], laidByText := true, laidKinds := [.data, .data, .pinned, .pinned], laidTests := true, laidLooks := .later }
def FnGroupsReadCardSaid : Prop := Claim7.holds Tryd.pinned (.plain (OpenSpec.ofChange fnGroupsReadSpec)) fnGroupsReadCard

/-- THE SECOND FORM's CARD OF 'laws.FnExactGroupsNames'. -/
def fnExactGroupsNamesUptoCard : Claim7 := { stood := { row := fnExactGroupsNamesUptoRow, standIns := [], harness := (true, "9c2ca3b281ff8b19e89753c35a89049fb06d3d2b12adf947c3dc278620679448"), looks := false }, kinds := [], alts := [], laidByText := true, laidKinds := [.data, .data, .pinned, .pinned], laidTests := true, laidLooks := .later }
def FnExactGroupsNamesUptoCardSaid : Prop := Claim7.holds Tryd.pinned (.plain (OpenSpec.upto fnExactGroupsNamesSpec)) fnExactGroupsNamesUptoCard

/-- THE SECOND FORM's CARD OF 'laws.FnExactGroupsRead'. -/
def fnExactGroupsReadUptoCard : Claim7 := { stood := { row := fnExactGroupsReadUptoRow, standIns := [], harness := (true, "9c2ca3b281ff8b19e89753c35a89049fb06d3d2b12adf947c3dc278620679448"), looks := false }, kinds := [], alts := [], laidByText := true, laidKinds := [.data, .data, .pinned, .pinned], laidTests := true, laidLooks := .later }
def FnExactGroupsReadUptoCardSaid : Prop := Claim7.holds Tryd.pinned (.plain (OpenSpec.upto fnExactGroupsReadSpec)) fnExactGroupsReadUptoCard

/-- THE SECOND FORM's CARD OF 'laws.FnGroups'. -/
def fnGroupsUptoCard : Claim7 := { stood := { row := fnGroupsUptoRow, standIns := [], harness := (true, "9c2ca3b281ff8b19e89753c35a89049fb06d3d2b12adf947c3dc278620679448"), looks := false }, kinds := [], alts := [], laidByText := true, laidKinds := [.data, .data, .pinned, .pinned], laidTests := true, laidLooks := .later }
def FnGroupsUptoCardSaid : Prop := Claim7.holds Tryd.pinned (.plain (OpenSpec.upto fnGroupsSpec)) fnGroupsUptoCard

/-- THE SECOND FORM's CARD OF 'laws.FnGroupsCut'. -/
def fnGroupsCutUptoCard : Claim7 := { stood := { row := fnGroupsCutUptoRow, standIns := [], harness := (true, "9c2ca3b281ff8b19e89753c35a89049fb06d3d2b12adf947c3dc278620679448"), looks := false }, kinds := [], alts := [], laidByText := true, laidKinds := [.data, .data, .pinned, .pinned], laidTests := true, laidLooks := .later }
def FnGroupsCutUptoCardSaid : Prop := Claim7.holds Tryd.pinned (.plain (OpenSpec.upto fnGroupsCutSpec)) fnGroupsCutUptoCard

/-- THE SECOND FORM's CARD OF 'laws.FnNeumeContour'. -/
def fnNeumeContourUptoCard : Claim7 := { stood := { row := fnNeumeContourUptoRow, standIns := [], harness := (true, "9c2ca3b281ff8b19e89753c35a89049fb06d3d2b12adf947c3dc278620679448"), looks := false }, kinds := [], alts := [], laidByText := true, laidKinds := [.data, .data, .pinned, .pinned], laidTests := true, laidLooks := .later }
def FnNeumeContourUptoCardSaid : Prop := Claim7.holds Tryd.pinned (.plain (OpenSpec.upto fnNeumeContourSpec)) fnNeumeContourUptoCard

/-- THE SECOND FORM's CARD OF 'laws.FnGroupsRead'. -/
def fnGroupsReadUptoCard : Claim7 := { stood := { row := fnGroupsReadUptoRow, standIns := [], harness := (true, "9c2ca3b281ff8b19e89753c35a89049fb06d3d2b12adf947c3dc278620679448"), looks := false }, kinds := [], alts := [], laidByText := true, laidKinds := [.data, .data, .pinned, .pinned], laidTests := true, laidLooks := .later }
def FnGroupsReadUptoCardSaid : Prop := Claim7.holds Tryd.pinned (.plain (OpenSpec.upto fnGroupsReadSpec)) fnGroupsReadUptoCard
end Rows
end Go.Proofs.YtldepdaglapdeaaDoor
