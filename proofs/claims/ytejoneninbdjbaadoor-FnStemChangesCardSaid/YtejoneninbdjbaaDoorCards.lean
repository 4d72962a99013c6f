/-
  DERIVED. GIVEN WITH THE SEED: THE CARDS: each row of YtejoneninbdjbaaDoorRows.lean that lists a variable, with what it lists TIED to the program's text (the seventh form; the later family's looks); each row that meets fmt, with fmt's text TOLD by the authors' own Lean function (tested against real Go, not proved from fmt's source: count such statements apart). THE CARD IS WHAT COUNTS. Prove the row's statement (the work); the ties are given (YtejoneninbdjbaaDoorTie.lean); close each card by the builder's one call (the guide's Derived/Test/ToyasCard.lean, 'card_holds'). Laid BY PROGRAM, IN A SANDBOX (cutbox-door.mjs). By AI agents, Wed Nov 11 2026. No macro, syntax, notation, axiom, sorry.
-/
import Derived.Test.YtejoneninbdjbaaDoorRows
import GoSem.ClaimSeven
namespace Go.Proofs.YtejoneninbdjbaaDoor
namespace Rows

/-- THE TIED CARD OF 'laws.FnExactBooksValid'. -/
def fnExactBooksValidCard : Claim7 := { stood := { row := fnExactBooksValidRow, standIns := [], harness := (true, "a175d7172c173241a438c52cad8f2cbb84e6b24e3ac681f1c733cbb943b1f07c"), looks := false }, kinds := [], alts := [], laidByText := true, laidKinds := [.data, .pinned], laidTests := true, laidLooks := .later }
def FnExactBooksValidCardSaid : Prop := Claim7.holds Tryd.pinned (.plain (OpenSpec.ofChange fnExactBooksValidSpec)) fnExactBooksValidCard

/-- THE TIED CARD OF 'laws.FnExactBooksFar'. -/
def fnExactBooksFarCard : Claim7 := { stood := { row := fnExactBooksFarRow, standIns := [], harness := (true, "a175d7172c173241a438c52cad8f2cbb84e6b24e3ac681f1c733cbb943b1f07c"), looks := false }, kinds := [], alts := [], laidByText := true, laidKinds := [.data, .pinned], laidTests := true, laidLooks := .later }
def FnExactBooksFarCardSaid : Prop := Claim7.holds Tryd.pinned (.plain (OpenSpec.ofChange fnExactBooksFarSpec)) fnExactBooksFarCard

/-- THE TIED CARD OF 'laws.FnExactStemValid'. -/
def fnExactStemValidCard : Claim7 := { stood := { row := fnExactStemValidRow, standIns := [], harness := (true, "a175d7172c173241a438c52cad8f2cbb84e6b24e3ac681f1c733cbb943b1f07c"), looks := false }, kinds := [], alts := [], laidByText := true, laidKinds := [.data, .pinned], laidTests := true, laidLooks := .later }
def FnExactStemValidCardSaid : Prop := Claim7.holds Tryd.pinned (.plain (OpenSpec.ofChange fnExactStemValidSpec)) fnExactStemValidCard

/-- THE TIED CARD OF 'laws.FnExactBooksCommon'. -/
def fnExactBooksCommonCard : Claim7 := { stood := { row := fnExactBooksCommonRow, standIns := [], harness := (true, "a175d7172c173241a438c52cad8f2cbb84e6b24e3ac681f1c733cbb943b1f07c"), looks := false }, kinds := [], alts := [], laidByText := true, laidKinds := [.data, .pinned], laidTests := true, laidLooks := .later }
def FnExactBooksCommonCardSaid : Prop := Claim7.holds Tryd.pinned (.plain (OpenSpec.ofChange fnExactBooksCommonSpec)) fnExactBooksCommonCard

/-- THE TIED CARD OF 'laws.FnBooksFar'. -/
def fnBooksFarCard : Claim7 := { stood := { row := fnBooksFarRow, standIns := [], harness := (true, "a175d7172c173241a438c52cad8f2cbb84e6b24e3ac681f1c733cbb943b1f07c"), looks := false }, kinds := [], alts := [], laidByText := true, laidKinds := [.data, .pinned], laidTests := true, laidLooks := .later }
def FnBooksFarCardSaid : Prop := Claim7.holds Tryd.pinned (.plain (OpenSpec.ofChange fnBooksFarSpec)) fnBooksFarCard

/-- THE TIED CARD OF 'laws.FnExactStemDepth'. -/
def fnExactStemDepthCard : Claim7 := { stood := { row := fnExactStemDepthRow, standIns := [], harness := (true, "a175d7172c173241a438c52cad8f2cbb84e6b24e3ac681f1c733cbb943b1f07c"), looks := false }, kinds := [], alts := [], laidByText := true, laidKinds := [.data, .pinned], laidTests := true, laidLooks := .later }
def FnExactStemDepthCardSaid : Prop := Claim7.holds Tryd.pinned (.plain (OpenSpec.ofChange fnExactStemDepthSpec)) fnExactStemDepthCard

/-- THE TIED CARD OF 'laws.FnBooksCommon'. -/
def fnBooksCommonCard : Claim7 := { stood := { row := fnBooksCommonRow, standIns := [], harness := (true, "a175d7172c173241a438c52cad8f2cbb84e6b24e3ac681f1c733cbb943b1f07c"), looks := false }, kinds := [], alts := [], laidByText := true, laidKinds := [.data, .pinned], laidTests := true, laidLooks := .later }
def FnBooksCommonCardSaid : Prop := Claim7.holds Tryd.pinned (.plain (OpenSpec.ofChange fnBooksCommonSpec)) fnBooksCommonCard

/-- THE TIED CARD OF 'laws.FnExactStemChanges'. -/
def fnExactStemChangesCard : Claim7 := { stood := { row := fnExactStemChangesRow, standIns := [], harness := (true, "a175d7172c173241a438c52cad8f2cbb84e6b24e3ac681f1c733cbb943b1f07c"), looks := false }, kinds := [], alts := [], laidByText := true, laidKinds := [.data, .pinned], laidTests := true, laidLooks := .later }
def FnExactStemChangesCardSaid : Prop := Claim7.holds Tryd.pinned (.plain (OpenSpec.ofChange fnExactStemChangesSpec)) fnExactStemChangesCard

/-- THE TIED CARD OF 'laws.FnExactStemMove'. -/
def fnExactStemMoveCard : Claim7 := { stood := { row := fnExactStemMoveRow, standIns := [], harness := (true, "a175d7172c173241a438c52cad8f2cbb84e6b24e3ac681f1c733cbb943b1f07c"), looks := false }, kinds := [], alts := [], laidByText := true, laidKinds := [.data, .pinned], laidTests := true, laidLooks := .later }
def FnExactStemMoveCardSaid : Prop := Claim7.holds Tryd.pinned (.plain (OpenSpec.ofChange fnExactStemMoveSpec)) fnExactStemMoveCard

/-- THE TIED CARD OF 'laws.FnExactStemBest'. -/
def fnExactStemBestCard : Claim7 := { stood := { row := fnExactStemBestRow, standIns := [], harness := (true, "a175d7172c173241a438c52cad8f2cbb84e6b24e3ac681f1c733cbb943b1f07c"), looks := false }, kinds := [], alts := [], laidByText := true, laidKinds := [.data, .pinned], laidTests := true, laidLooks := .later }
def FnExactStemBestCardSaid : Prop := Claim7.holds Tryd.pinned (.plain (OpenSpec.ofChange fnExactStemBestSpec)) fnExactStemBestCard

/-- THE TIED CARD OF 'laws.FnStemDepth'. -/
def fnStemDepthCard : Claim7 := { stood := { row := fnStemDepthRow, standIns := [], harness := (true, "a175d7172c173241a438c52cad8f2cbb84e6b24e3ac681f1c733cbb943b1f07c"), looks := false }, kinds := [], alts := [], laidByText := true, laidKinds := [.data, .pinned], laidTests := true, laidLooks := .later }
def FnStemDepthCardSaid : Prop := Claim7.holds Tryd.pinned (.plain (OpenSpec.ofChange fnStemDepthSpec)) fnStemDepthCard

/-- THE TIED CARD OF 'laws.FnStemBest'. -/
def fnStemBestCard : Claim7 := { stood := { row := fnStemBestRow, standIns := [], harness := (true, "a175d7172c173241a438c52cad8f2cbb84e6b24e3ac681f1c733cbb943b1f07c"), looks := false }, kinds := [], alts := [], laidByText := true, laidKinds := [.data, .pinned], laidTests := true, laidLooks := .later }
def FnStemBestCardSaid : Prop := Claim7.holds Tryd.pinned (.plain (OpenSpec.ofChange fnStemBestSpec)) fnStemBestCard

/-- THE TIED CARD OF 'laws.FnExactStemFewest'. -/
def fnExactStemFewestCard : Claim7 := { stood := { row := fnExactStemFewestRow, standIns := [], harness := (true, "a175d7172c173241a438c52cad8f2cbb84e6b24e3ac681f1c733cbb943b1f07c"), looks := false }, kinds := [], alts := [], laidByText := true, laidKinds := [.data, .pinned], laidTests := true, laidLooks := .later }
def FnExactStemFewestCardSaid : Prop := Claim7.holds Tryd.pinned (.plain (OpenSpec.ofChange fnExactStemFewestSpec)) fnExactStemFewestCard

/-- THE TIED CARD OF 'laws.FnStemFewest'. -/
def fnStemFewestCard : Claim7 := { stood := { row := fnStemFewestRow, standIns := [], harness := (true, "a175d7172c173241a438c52cad8f2cbb84e6b24e3ac681f1c733cbb943b1f07c"), looks := false }, kinds := [], alts := [], laidByText := true, laidKinds := [.data, .pinned], laidTests := true, laidLooks := .later }
def FnStemFewestCardSaid : Prop := Claim7.holds Tryd.pinned (.plain (OpenSpec.ofChange fnStemFewestSpec)) fnStemFewestCard

/-- THE TIED CARD OF 'laws.FnExactStemFill'. -/
def fnExactStemFillCard : Claim7 := { stood := { row := fnExactStemFillRow, standIns := [], harness := (true, "a175d7172c173241a438c52cad8f2cbb84e6b24e3ac681f1c733cbb943b1f07c"), looks := false }, kinds := [], alts := [], laidByText := true, laidKinds := [.data, .pinned], laidTests := true, laidLooks := .later }
def FnExactStemFillCardSaid : Prop := Claim7.holds Tryd.pinned (.plain (OpenSpec.ofChange fnExactStemFillSpec)) fnExactStemFillCard

/-- THE TIED CARD OF 'laws.FnStemMove'. -/
def fnStemMoveCard : Claim7 := { stood := { row := fnStemMoveRow, standIns := [], harness := (true, "a175d7172c173241a438c52cad8f2cbb84e6b24e3ac681f1c733cbb943b1f07c"), looks := false }, kinds := [], alts := [], laidByText := true, laidKinds := [.data, .pinned], laidTests := true, laidLooks := .later }
def FnStemMoveCardSaid : Prop := Claim7.holds Tryd.pinned (.plain (OpenSpec.ofChange fnStemMoveSpec)) fnStemMoveCard

/-- THE TIED CARD OF 'laws.FnStemLost'. -/
def fnStemLostCard : Claim7 := { stood := { row := fnStemLostRow, standIns := [], harness := (true, "a175d7172c173241a438c52cad8f2cbb84e6b24e3ac681f1c733cbb943b1f07c"), looks := false }, kinds := [], alts := [], laidByText := true, laidKinds := [.data, .pinned], laidTests := true, laidLooks := .later }
def FnStemLostCardSaid : Prop := Claim7.holds Tryd.pinned (.plain (OpenSpec.ofChange fnStemLostSpec)) fnStemLostCard

/-- THE TIED CARD OF 'laws.FnStemChanges'. -/
def fnStemChangesCard : Claim7 := { stood := { row := fnStemChangesRow, standIns := [], harness := (true, "a175d7172c173241a438c52cad8f2cbb84e6b24e3ac681f1c733cbb943b1f07c"), looks := false }, kinds := [], alts := [], laidByText := true, laidKinds := [.data, .pinned], laidTests := true, laidLooks := .later }
def FnStemChangesCardSaid : Prop := Claim7.holds Tryd.pinned (.plain (OpenSpec.ofChange fnStemChangesSpec)) fnStemChangesCard

/-- THE SECOND FORM's CARD OF 'laws.FnExactBooksValid'. -/
def fnExactBooksValidUptoCard : Claim7 := { stood := { row := fnExactBooksValidUptoRow, standIns := [], harness := (true, "a175d7172c173241a438c52cad8f2cbb84e6b24e3ac681f1c733cbb943b1f07c"), looks := false }, kinds := [], alts := [], laidByText := true, laidKinds := [.data, .pinned], laidTests := true, laidLooks := .later }
def FnExactBooksValidUptoCardSaid : Prop := Claim7.holds Tryd.pinned (.plain (OpenSpec.upto fnExactBooksValidSpec)) fnExactBooksValidUptoCard

/-- THE SECOND FORM's CARD OF 'laws.FnExactBooksFar'. -/
def fnExactBooksFarUptoCard : Claim7 := { stood := { row := fnExactBooksFarUptoRow, standIns := [], harness := (true, "a175d7172c173241a438c52cad8f2cbb84e6b24e3ac681f1c733cbb943b1f07c"), looks := false }, kinds := [], alts := [], laidByText := true, laidKinds := [.data, .pinned], laidTests := true, laidLooks := .later }
def FnExactBooksFarUptoCardSaid : Prop := Claim7.holds Tryd.pinned (.plain (OpenSpec.upto fnExactBooksFarSpec)) fnExactBooksFarUptoCard

/-- THE SECOND FORM's CARD OF 'laws.FnExactStemValid'. -/
def fnExactStemValidUptoCard : Claim7 := { stood := { row := fnExactStemValidUptoRow, standIns := [], harness := (true, "a175d7172c173241a438c52cad8f2cbb84e6b24e3ac681f1c733cbb943b1f07c"), looks := false }, kinds := [], alts := [], laidByText := true, laidKinds := [.data, .pinned], laidTests := true, laidLooks := .later }
def FnExactStemValidUptoCardSaid : Prop := Claim7.holds Tryd.pinned (.plain (OpenSpec.upto fnExactStemValidSpec)) fnExactStemValidUptoCard

/-- THE SECOND FORM's CARD OF 'laws.FnExactBooksCommon'. -/
def fnExactBooksCommonUptoCard : Claim7 := { stood := { row := fnExactBooksCommonUptoRow, standIns := [], harness := (true, "a175d7172c173241a438c52cad8f2cbb84e6b24e3ac681f1c733cbb943b1f07c"), looks := false }, kinds := [], alts := [], laidByText := true, laidKinds := [.data, .pinned], laidTests := true, laidLooks := .later }
def FnExactBooksCommonUptoCardSaid : Prop := Claim7.holds Tryd.pinned (.plain (OpenSpec.upto fnExactBooksCommonSpec)) fnExactBooksCommonUptoCard

/-- THE SECOND FORM's CARD OF 'laws.FnBooksFar'. -/
def fnBooksFarUptoCard : Claim7 := { stood := { row := fnBooksFarUptoRow, standIns := [], harness := (true, "a175d7172c173241a438c52cad8f2cbb84e6b24e3ac681f1c733cbb943b1f07c"), looks := false }, kinds := [], alts := [], laidByText := true, laidKinds := [.data, .pinned], laidTests := true, laidLooks := .later }
def FnBooksFarUptoCardSaid : Prop := Claim7.holds Tryd.pinned (.plain (OpenSpec.upto fnBooksFarSpec)) fnBooksFarUptoCard

/-- THE SECOND FORM's CARD OF 'laws.FnExactStemDepth'. -/
def fnExactStemDepthUptoCard : Claim7 := { stood := { row := fnExactStemDepthUptoRow, standIns := [], harness := (true, "a175d7172c173241a438c52cad8f2cbb84e6b24e3ac681f1c733cbb943b1f07c"), looks := false }, kinds := [], alts := [], laidByText := true, laidKinds := [.data, .pinned], laidTests := true, laidLooks := .later }
def FnExactStemDepthUptoCardSaid : Prop := Claim7.holds Tryd.pinned (.plain (OpenSpec.upto fnExactStemDepthSpec)) fnExactStemDepthUptoCard

/-- THE SECOND FORM's CARD OF 'laws.FnBooksCommon'. -/
def fnBooksCommonUptoCard : Claim7 := { stood := { row := fnBooksCommonUptoRow, standIns := [], harness := (true, "a175d7172c173241a438c52cad8f2cbb84e6b24e3ac681f1c733cbb943b1f07c"), looks := false }, kinds := [], alts := [], laidByText := true, laidKinds := [.data, .pinned], laidTests := true, laidLooks := .later }
def FnBooksCommonUptoCardSaid : Prop := Claim7.holds Tryd.pinned (.plain (OpenSpec.upto fnBooksCommonSpec)) fnBooksCommonUptoCard

/-- THE SECOND FORM's CARD OF 'laws.FnExactStemChanges'. -/
def fnExactStemChangesUptoCard : Claim7 := { stood := { row := fnExactStemChangesUptoRow, standIns := [], harness := (true, "a175d7172c173241a438c52cad8f2cbb84e6b24e3ac681f1c733cbb943b1f07c"), looks := false }, kinds := [], alts := [], laidByText := true, laidKinds := [.data, .pinned], laidTests := true, laidLooks := .later }
def FnExactStemChangesUptoCardSaid : Prop := Claim7.holds Tryd.pinned (.plain (OpenSpec.upto fnExactStemChangesSpec)) fnExactStemChangesUptoCard

/-- THE SECOND FORM's CARD OF 'laws.FnExactStemMove'. -/
def fnExactStemMoveUptoCard : Claim7 := { stood := { row := fnExactStemMoveUptoRow, standIns := [], harness := (true, "a175d7172c173241a438c52cad8f2cbb84e6b24e3ac681f1c733cbb943b1f07c"), looks := false }, kinds := [], alts := [], laidByText := true, laidKinds := [.data, .pinned], laidTests := true, laidLooks := .later }
def FnExactStemMoveUptoCardSaid : Prop := Claim7.holds Tryd.pinned (.plain (OpenSpec.upto fnExactStemMoveSpec)) fnExactStemMoveUptoCard

/-- THE SECOND FORM's CARD OF 'laws.FnExactStemBest'. -/
def fnExactStemBestUptoCard : Claim7 := { stood := { row := fnExactStemBestUptoRow, standIns := [], harness := (true, "a175d7172c173241a438c52cad8f2cbb84e6b24e3ac681f1c733cbb943b1f07c"), looks := false }, kinds := [], alts := [], laidByText := true, laidKinds := [.data, .pinned], laidTests := true, laidLooks := .later }
def FnExactStemBestUptoCardSaid : Prop := Claim7.holds Tryd.pinned (.plain (OpenSpec.upto fnExactStemBestSpec)) fnExactStemBestUptoCard

/-- THE SECOND FORM's CARD OF 'laws.FnStemDepth'. -/
def fnStemDepthUptoCard : Claim7 := { stood := { row := fnStemDepthUptoRow, standIns := [], harness := (true, "a175d7172c173241a438c52cad8f2cbb84e6b24e3ac681f1c733cbb943b1f07c"), looks := false }, kinds := [], alts := [], laidByText := true, laidKinds := [.data, .pinned], laidTests := true, laidLooks := .later }
def FnStemDepthUptoCardSaid : Prop := Claim7.holds Tryd.pinned (.plain (OpenSpec.upto fnStemDepthSpec)) fnStemDepthUptoCard

/-- THE SECOND FORM's CARD OF 'laws.FnStemBest'. -/
def fnStemBestUptoCard : Claim7 := { stood := { row := fnStemBestUptoRow, standIns := [], harness := (true, "a175d7172c173241a438c52cad8f2cbb84e6b24e3ac681f1c733cbb943b1f07c"), looks := false }, kinds := [], alts := [], laidByText := true, laidKinds := [.data, .pinned], laidTests := true, laidLooks := .later }
def FnStemBestUptoCardSaid : Prop := Claim7.holds Tryd.pinned (.plain (OpenSpec.upto fnStemBestSpec)) fnStemBestUptoCard

/-- THE SECOND FORM's CARD OF 'laws.FnExactStemFewest'. -/
def fnExactStemFewestUptoCard : Claim7 := { stood := { row := fnExactStemFewestUptoRow, standIns := [], harness := (true, "a175d7172c173241a438c52cad8f2cbb84e6b24e3ac681f1c733cbb943b1f07c"), looks := false }, kinds := [], alts := [], laidByText := true, laidKinds := [.data, .pinned], laidTests := true, laidLooks := .later }
def FnExactStemFewestUptoCardSaid : Prop := Claim7.holds Tryd.pinned (.plain (OpenSpec.upto fnExactStemFewestSpec)) fnExactStemFewestUptoCard

/-- THE SECOND FORM's CARD OF 'laws.FnStemFewest'. -/
def fnStemFewestUptoCard : Claim7 := { stood := { row := fnStemFewestUptoRow, standIns := [], harness := (true, "a175d7172c173241a438c52cad8f2cbb84e6b24e3ac681f1c733cbb943b1f07c"), looks := false }, kinds := [], alts := [], laidByText := true, laidKinds := [.data, .pinned], laidTests := true, laidLooks := .later }
def FnStemFewestUptoCardSaid : Prop := Claim7.holds Tryd.pinned (.plain (OpenSpec.upto fnStemFewestSpec)) fnStemFewestUptoCard

/-- THE SECOND FORM's CARD OF 'laws.FnExactStemFill'. -/
def fnExactStemFillUptoCard : Claim7 := { stood := { row := fnExactStemFillUptoRow, standIns := [], harness := (true, "a175d7172c173241a438c52cad8f2cbb84e6b24e3ac681f1c733cbb943b1f07c"), looks := false }, kinds := [], alts := [], laidByText := true, laidKinds := [.data, .pinned], laidTests := true, laidLooks := .later }
def FnExactStemFillUptoCardSaid : Prop := Claim7.holds Tryd.pinned (.plain (OpenSpec.upto fnExactStemFillSpec)) fnExactStemFillUptoCard

/-- THE SECOND FORM's CARD OF 'laws.FnStemMove'. -/
def fnStemMoveUptoCard : Claim7 := { stood := { row := fnStemMoveUptoRow, standIns := [], harness := (true, "a175d7172c173241a438c52cad8f2cbb84e6b24e3ac681f1c733cbb943b1f07c"), looks := false }, kinds := [], alts := [], laidByText := true, laidKinds := [.data, .pinned], laidTests := true, laidLooks := .later }
def FnStemMoveUptoCardSaid : Prop := Claim7.holds Tryd.pinned (.plain (OpenSpec.upto fnStemMoveSpec)) fnStemMoveUptoCard

/-- THE SECOND FORM's CARD OF 'laws.FnStemLost'. -/
def fnStemLostUptoCard : Claim7 := { stood := { row := fnStemLostUptoRow, standIns := [], harness := (true, "a175d7172c173241a438c52cad8f2cbb84e6b24e3ac681f1c733cbb943b1f07c"), looks := false }, kinds := [], alts := [], laidByText := true, laidKinds := [.data, .pinned], laidTests := true, laidLooks := .later }
def FnStemLostUptoCardSaid : Prop := Claim7.holds Tryd.pinned (.plain (OpenSpec.upto fnStemLostSpec)) fnStemLostUptoCard

/-- THE SECOND FORM's CARD OF 'laws.FnStemChanges'. -/
def fnStemChangesUptoCard : Claim7 := { stood := { row := fnStemChangesUptoRow, standIns := [], harness := (true, "a175d7172c173241a438c52cad8f2cbb84e6b24e3ac681f1c733cbb943b1f07c"), looks := false }, kinds := [], alts := [], laidByText := true, laidKinds := [.data, .pinned], laidTests := true, laidLooks := .later }
def FnStemChangesUptoCardSaid : Prop := Claim7.holds Tryd.pinned (.plain (OpenSpec.upto fnStemChangesSpec)) fnStemChangesUptoCard
end Rows
end Go.Proofs.YtejoneninbdjbaaDoor
