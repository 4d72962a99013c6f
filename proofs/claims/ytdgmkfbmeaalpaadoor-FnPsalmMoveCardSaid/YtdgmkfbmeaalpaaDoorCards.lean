/-
  DERIVED. GIVEN WITH THE SEED: THE CARDS: each row of YtdgmkfbmeaalpaaDoorRows.lean that lists a variable, with what it lists TIED to the program's text (the seventh form; the later family's looks); each row that meets fmt, with fmt's text TOLD by the authors' own Lean function (tested against real Go, not proved from fmt's source: count such statements apart). THE CARD IS WHAT COUNTS. Prove the row's statement (the work); the ties are given (YtdgmkfbmeaalpaaDoorTie.lean); close each card by the builder's one call (the guide's Derived/Test/ToyasCard.lean, 'card_holds'). Laid BY PROGRAM, IN A SANDBOX (cutbox-door.mjs). By AI agents, Wed Nov 11 2026. No macro, syntax, notation, axiom, sorry.
-/
import Derived.Test.YtdgmkfbmeaalpaaDoorRows
import GoSem.ClaimSeven
namespace Go.Proofs.YtdgmkfbmeaalpaaDoor
namespace Rows

/-- THE TIED CARD OF 'laws.FnPsalmFits'. -/
def fnPsalmFitsCard : Claim7 := { stood := { row := fnPsalmFitsRow, standIns := [], harness := (true, "95c8318e1392eb2a5db7b8b7a99d282c56258e7fe61e0da8e429e6d5d304e4ee"), looks := false }, kinds := [], alts := [], laidByText := true, laidKinds := [.data, .pinned], laidTests := true, laidLooks := .later }
def FnPsalmFitsCardSaid : Prop := Claim7.holds Tryd.pinned (.plain (OpenSpec.ofChange fnPsalmFitsSpec)) fnPsalmFitsCard

/-- THE TIED CARD OF 'laws.FnExactPsalmTenors'. -/
def fnExactPsalmTenorsCard : Claim7 := { stood := { row := fnExactPsalmTenorsRow, standIns := [], harness := (true, "95c8318e1392eb2a5db7b8b7a99d282c56258e7fe61e0da8e429e6d5d304e4ee"), looks := false }, kinds := [], alts := [], laidByText := true, laidKinds := [.data, .pinned], laidTests := true, laidLooks := .later }
def FnExactPsalmTenorsCardSaid : Prop := Claim7.holds Tryd.pinned (.plain (OpenSpec.ofChange fnExactPsalmTenorsSpec)) fnExactPsalmTenorsCard

/-- THE TIED CARD OF 'laws.FnPsalmAccents'. -/
def fnPsalmAccentsCard : Claim7 := { stood := { row := fnPsalmAccentsRow, standIns := [], harness := (true, "95c8318e1392eb2a5db7b8b7a99d282c56258e7fe61e0da8e429e6d5d304e4ee"), looks := false }, kinds := [], alts := [], laidByText := true, laidKinds := [.data, .pinned], laidTests := true, laidLooks := .later }
def FnPsalmAccentsCardSaid : Prop := Claim7.holds Tryd.pinned (.plain (OpenSpec.ofChange fnPsalmAccentsSpec)) fnPsalmAccentsCard

/-- THE TIED CARD OF 'laws.FnExactPsalmAccents'. -/
def fnExactPsalmAccentsCard : Claim7 := { stood := { row := fnExactPsalmAccentsRow, standIns := [], harness := (true, "95c8318e1392eb2a5db7b8b7a99d282c56258e7fe61e0da8e429e6d5d304e4ee"), looks := false }, kinds := [], alts := [], laidByText := true, laidKinds := [.data, .pinned], laidTests := true, laidLooks := .later }
def FnExactPsalmAccentsCardSaid : Prop := Claim7.holds Tryd.pinned (.plain (OpenSpec.ofChange fnExactPsalmAccentsSpec)) fnExactPsalmAccentsCard

/-- THE TIED CARD OF 'laws.FnPsalmMore'. -/
def fnPsalmMoreCard : Claim7 := { stood := { row := fnPsalmMoreRow, standIns := [], harness := (true, "95c8318e1392eb2a5db7b8b7a99d282c56258e7fe61e0da8e429e6d5d304e4ee"), looks := false }, kinds := [], alts := [], laidByText := true, laidKinds := [.data, .pinned], laidTests := true, laidLooks := .later }
def FnPsalmMoreCardSaid : Prop := Claim7.holds Tryd.pinned (.plain (OpenSpec.ofChange fnPsalmMoreSpec)) fnPsalmMoreCard

/-- THE TIED CARD OF 'laws.FnPsalm'. -/
def fnPsalmCard : Claim7 := { stood := { row := fnPsalmRow, standIns := [], harness := (true, "95c8318e1392eb2a5db7b8b7a99d282c56258e7fe61e0da8e429e6d5d304e4ee"), looks := false }, kinds := [], alts := [], laidByText := true, laidKinds := [.data, .pinned], laidTests := true, laidLooks := .later }
def FnPsalmCardSaid : Prop := Claim7.holds Tryd.pinned (.plain (OpenSpec.ofChange fnPsalmSpec)) fnPsalmCard

/-- THE TIED CARD OF 'laws.FnExactPsalmSing'. -/
def fnExactPsalmSingCard : Claim7 := { stood := { row := fnExactPsalmSingRow, standIns := [], harness := (true, "95c8318e1392eb2a5db7b8b7a99d282c56258e7fe61e0da8e429e6d5d304e4ee"), looks := false }, kinds := [], alts := [], laidByText := true, laidKinds := [.data, .pinned], laidTests := true, laidLooks := .later }
def FnExactPsalmSingCardSaid : Prop := Claim7.holds Tryd.pinned (.plain (OpenSpec.ofChange fnExactPsalmSingSpec)) fnExactPsalmSingCard

/-- THE TIED CARD OF 'laws.FnPsalmBest'. -/
def fnPsalmBestCard : Claim7 := { stood := { row := fnPsalmBestRow, standIns := [], harness := (true, "95c8318e1392eb2a5db7b8b7a99d282c56258e7fe61e0da8e429e6d5d304e4ee"), looks := false }, kinds := [], alts := [], laidByText := true, laidKinds := [.data, .pinned], laidTests := true, laidLooks := .later }
def FnPsalmBestCardSaid : Prop := Claim7.holds Tryd.pinned (.plain (OpenSpec.ofChange fnPsalmBestSpec)) fnPsalmBestCard

/-- THE TIED CARD OF 'laws.FnPsalmRead'. -/
def fnPsalmReadCard : Claim7 := { stood := { row := fnPsalmReadRow, standIns := [], harness := (true, "95c8318e1392eb2a5db7b8b7a99d282c56258e7fe61e0da8e429e6d5d304e4ee"), looks := false }, kinds := [], alts := [], laidByText := true, laidKinds := [.data, .pinned], laidTests := true, laidLooks := .later }
def FnPsalmReadCardSaid : Prop := Claim7.holds Tryd.pinned (.plain (OpenSpec.ofChange fnPsalmReadSpec)) fnPsalmReadCard

/-- THE TIED CARD OF 'laws.FnExactPsalmRead'. -/
def fnExactPsalmReadCard : Claim7 := { stood := { row := fnExactPsalmReadRow, standIns := [], harness := (true, "95c8318e1392eb2a5db7b8b7a99d282c56258e7fe61e0da8e429e6d5d304e4ee"), looks := false }, kinds := [], alts := [], laidByText := true, laidKinds := [.data, .pinned], laidTests := true, laidLooks := .later }
def FnExactPsalmReadCardSaid : Prop := Claim7.holds Tryd.pinned (.plain (OpenSpec.ofChange fnExactPsalmReadSpec)) fnExactPsalmReadCard

/-- THE TIED CARD OF 'laws.FnExactPsalmBest'. -/
def fnExactPsalmBestCard : Claim7 := { stood := { row := fnExactPsalmBestRow, standIns := [], harness := (true, "95c8318e1392eb2a5db7b8b7a99d282c56258e7fe61e0da8e429e6d5d304e4ee"), looks := false }, kinds := [], alts := [], laidByText := true, laidKinds := [.data, .pinned], laidTests := true, laidLooks := .later }
def FnExactPsalmBestCardSaid : Prop := Claim7.holds Tryd.pinned (.plain (OpenSpec.ofChange fnExactPsalmBestSpec)) fnExactPsalmBestCard

/-- THE TIED CARD OF 'laws.FnPsalmMove'. -/
def fnPsalmMoveCard : Claim7 := { stood := { row := fnPsalmMoveRow, standIns := [], harness := (true, "95c8318e1392eb2a5db7b8b7a99d282c56258e7fe61e0da8e429e6d5d304e4ee"), looks := false }, kinds := [], alts := [], laidByText := true, laidKinds := [.data, .data, .pinned], laidTests := true, laidLooks := .later }
def FnPsalmMoveCardSaid : Prop := Claim7.holds Tryd.pinned (.plain (OpenSpec.ofChange fnPsalmMoveSpec)) fnPsalmMoveCard

/-- THE SECOND FORM's CARD OF 'laws.FnPsalmFits'. -/
def fnPsalmFitsUptoCard : Claim7 := { stood := { row := fnPsalmFitsUptoRow, standIns := [], harness := (true, "95c8318e1392eb2a5db7b8b7a99d282c56258e7fe61e0da8e429e6d5d304e4ee"), looks := false }, kinds := [], alts := [], laidByText := true, laidKinds := [.data, .pinned], laidTests := true, laidLooks := .later }
def FnPsalmFitsUptoCardSaid : Prop := Claim7.holds Tryd.pinned (.plain (OpenSpec.upto fnPsalmFitsSpec)) fnPsalmFitsUptoCard

/-- THE SECOND FORM's CARD OF 'laws.FnExactPsalmTenors'. -/
def fnExactPsalmTenorsUptoCard : Claim7 := { stood := { row := fnExactPsalmTenorsUptoRow, standIns := [], harness := (true, "95c8318e1392eb2a5db7b8b7a99d282c56258e7fe61e0da8e429e6d5d304e4ee"), looks := false }, kinds := [], alts := [], laidByText := true, laidKinds := [.data, .pinned], laidTests := true, laidLooks := .later }
def FnExactPsalmTenorsUptoCardSaid : Prop := Claim7.holds Tryd.pinned (.plain (OpenSpec.upto fnExactPsalmTenorsSpec)) fnExactPsalmTenorsUptoCard

/-- THE SECOND FORM's CARD OF 'laws.FnPsalmAccents'. -/
def fnPsalmAccentsUptoCard : Claim7 := { stood := { row := fnPsalmAccentsUptoRow, standIns := [], harness := (true, "95c8318e1392eb2a5db7b8b7a99d282c56258e7fe61e0da8e429e6d5d304e4ee"), looks := false }, kinds := [], alts := [], laidByText := true, laidKinds := [.data, .pinned], laidTests := true, laidLooks := .later }
def FnPsalmAccentsUptoCardSaid : Prop := Claim7.holds Tryd.pinned (.plain (OpenSpec.upto fnPsalmAccentsSpec)) fnPsalmAccentsUptoCard

/-- THE SECOND FORM's CARD OF 'laws.FnExactPsalmAccents'. -/
def fnExactPsalmAccentsUptoCard : Claim7 := { stood := { row := fnExactPsalmAccentsUptoRow, standIns := [], harness := (true, "95c8318e1392eb2a5db7b8b7a99d282c56258e7fe61e0da8e429e6d5d304e4ee"), looks := false }, kinds := [], alts := [], laidByText := true, laidKinds := [.data, .pinned], laidTests := true, laidLooks := .later }
def FnExactPsalmAccentsUptoCardSaid : Prop := Claim7.holds Tryd.pinned (.plain (OpenSpec.upto fnExactPsalmAccentsSpec)) fnExactPsalmAccentsUptoCard

/-- THE SECOND FORM's CARD OF 'laws.FnPsalmMore'. -/
def fnPsalmMoreUptoCard : Claim7 := { stood := { row := fnPsalmMoreUptoRow, standIns := [], harness := (true, "95c8318e1392eb2a5db7b8b7a99d282c56258e7fe61e0da8e429e6d5d304e4ee"), looks := false }, kinds := [], alts := [], laidByText := true, laidKinds := [.data, .pinned], laidTests := true, laidLooks := .later }
def FnPsalmMoreUptoCardSaid : Prop := Claim7.holds Tryd.pinned (.plain (OpenSpec.upto fnPsalmMoreSpec)) fnPsalmMoreUptoCard

/-- THE SECOND FORM's CARD OF 'laws.FnPsalm'. -/
def fnPsalmUptoCard : Claim7 := { stood := { row := fnPsalmUptoRow, standIns := [], harness := (true, "95c8318e1392eb2a5db7b8b7a99d282c56258e7fe61e0da8e429e6d5d304e4ee"), looks := false }, kinds := [], alts := [], laidByText := true, laidKinds := [.data, .pinned], laidTests := true, laidLooks := .later }
def FnPsalmUptoCardSaid : Prop := Claim7.holds Tryd.pinned (.plain (OpenSpec.upto fnPsalmSpec)) fnPsalmUptoCard

/-- THE SECOND FORM's CARD OF 'laws.FnExactPsalmSing'. -/
def fnExactPsalmSingUptoCard : Claim7 := { stood := { row := fnExactPsalmSingUptoRow, standIns := [], harness := (true, "95c8318e1392eb2a5db7b8b7a99d282c56258e7fe61e0da8e429e6d5d304e4ee"), looks := false }, kinds := [], alts := [], laidByText := true, laidKinds := [.data, .pinned], laidTests := true, laidLooks := .later }
def FnExactPsalmSingUptoCardSaid : Prop := Claim7.holds Tryd.pinned (.plain (OpenSpec.upto fnExactPsalmSingSpec)) fnExactPsalmSingUptoCard

/-- THE SECOND FORM's CARD OF 'laws.FnPsalmBest'. -/
def fnPsalmBestUptoCard : Claim7 := { stood := { row := fnPsalmBestUptoRow, standIns := [], harness := (true, "95c8318e1392eb2a5db7b8b7a99d282c56258e7fe61e0da8e429e6d5d304e4ee"), looks := false }, kinds := [], alts := [], laidByText := true, laidKinds := [.data, .pinned], laidTests := true, laidLooks := .later }
def FnPsalmBestUptoCardSaid : Prop := Claim7.holds Tryd.pinned (.plain (OpenSpec.upto fnPsalmBestSpec)) fnPsalmBestUptoCard

/-- THE SECOND FORM's CARD OF 'laws.FnPsalmRead'. -/
def fnPsalmReadUptoCard : Claim7 := { stood := { row := fnPsalmReadUptoRow, standIns := [], harness := (true, "95c8318e1392eb2a5db7b8b7a99d282c56258e7fe61e0da8e429e6d5d304e4ee"), looks := false }, kinds := [], alts := [], laidByText := true, laidKinds := [.data, .pinned], laidTests := true, laidLooks := .later }
def FnPsalmReadUptoCardSaid : Prop := Claim7.holds Tryd.pinned (.plain (OpenSpec.upto fnPsalmReadSpec)) fnPsalmReadUptoCard

/-- THE SECOND FORM's CARD OF 'laws.FnExactPsalmRead'. -/
def fnExactPsalmReadUptoCard : Claim7 := { stood := { row := fnExactPsalmReadUptoRow, standIns := [], harness := (true, "95c8318e1392eb2a5db7b8b7a99d282c56258e7fe61e0da8e429e6d5d304e4ee"), looks := false }, kinds := [], alts := [], laidByText := true, laidKinds := [.data, .pinned], laidTests := true, laidLooks := .later }
def FnExactPsalmReadUptoCardSaid : Prop := Claim7.holds Tryd.pinned (.plain (OpenSpec.upto fnExactPsalmReadSpec)) fnExactPsalmReadUptoCard

/-- THE SECOND FORM's CARD OF 'laws.FnExactPsalmBest'. -/
def fnExactPsalmBestUptoCard : Claim7 := { stood := { row := fnExactPsalmBestUptoRow, standIns := [], harness := (true, "95c8318e1392eb2a5db7b8b7a99d282c56258e7fe61e0da8e429e6d5d304e4ee"), looks := false }, kinds := [], alts := [], laidByText := true, laidKinds := [.data, .pinned], laidTests := true, laidLooks := .later }
def FnExactPsalmBestUptoCardSaid : Prop := Claim7.holds Tryd.pinned (.plain (OpenSpec.upto fnExactPsalmBestSpec)) fnExactPsalmBestUptoCard

/-- THE SECOND FORM's CARD OF 'laws.FnPsalmMove'. -/
def fnPsalmMoveUptoCard : Claim7 := { stood := { row := fnPsalmMoveUptoRow, standIns := [], harness := (true, "95c8318e1392eb2a5db7b8b7a99d282c56258e7fe61e0da8e429e6d5d304e4ee"), looks := false }, kinds := [], alts := [], laidByText := true, laidKinds := [.data, .data, .pinned], laidTests := true, laidLooks := .later }
def FnPsalmMoveUptoCardSaid : Prop := Claim7.holds Tryd.pinned (.plain (OpenSpec.upto fnPsalmMoveSpec)) fnPsalmMoveUptoCard
end Rows
end Go.Proofs.YtdgmkfbmeaalpaaDoor
