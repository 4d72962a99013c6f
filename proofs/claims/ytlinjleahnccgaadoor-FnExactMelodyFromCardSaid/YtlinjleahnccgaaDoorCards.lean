/-
  DERIVED. GIVEN WITH THE SEED: THE CARDS: each row of YtlinjleahnccgaaDoorRows.lean that lists a variable, with what it lists TIED to the program's text (the seventh form; the later family's looks); each row that meets fmt, with fmt's text TOLD by the authors' own Lean function (tested against real Go, not proved from fmt's source: count such statements apart). THE CARD IS WHAT COUNTS. Prove the row's statement (the work); the ties are given (YtlinjleahnccgaaDoorTie.lean); close each card by the builder's one call (the guide's Derived/Test/ToyasCard.lean, 'card_holds'). Laid BY PROGRAM, IN A SANDBOX (cutbox-door.mjs). By AI agents, Wed Nov 11 2026. No macro, syntax, notation, axiom, sorry.
-/
import Derived.Test.YtlinjleahnccgaaDoorRows
import GoSem.ClaimSeven
namespace Go.Proofs.YtlinjleahnccgaaDoor
namespace Rows

/-- THE TIED CARD OF 'laws.FnExactToneLetter'. -/
def fnExactToneLetterCard : Claim7 := { stood := { row := fnExactToneLetterRow, standIns := [], harness := (true, "be19127cc0c448c789caba69baff38868a12ff4c6dba2e64c47c1251b0117d47"), looks := false }, kinds := [], alts := [], laidByText := true, laidKinds := [.data], laidTests := true, laidLooks := .later }
def FnExactToneLetterCardSaid : Prop := Claim7.holds Tryd.pinned (.plain (OpenSpec.ofChange fnExactToneLetterSpec)) fnExactToneLetterCard

/-- THE TIED CARD OF 'laws.FnExactToneText'. -/
def fnExactToneTextCard : Claim7 := { stood := { row := fnExactToneTextRow, standIns := [], harness := (true, "be19127cc0c448c789caba69baff38868a12ff4c6dba2e64c47c1251b0117d47"), looks := false }, kinds := [], alts := [], laidByText := true, laidKinds := [.data, .data, .data, .data], laidTests := true, laidLooks := .later }
def FnExactToneTextCardSaid : Prop := Claim7.holds Tryd.pinned (.plain (OpenSpec.ofChange fnExactToneTextSpec)) fnExactToneTextCard

/-- THE TIED CARD OF 'laws.FnExactToneFrom'. -/
def fnExactToneFromCard : Claim7 := { stood := { row := fnExactToneFromRow, standIns := [], harness := (true, "be19127cc0c448c789caba69baff38868a12ff4c6dba2e64c47c1251b0117d47"), looks := false }, kinds := [], alts := [], laidByText := true, laidKinds := [.data, .data, .data, .data], laidTests := true, laidLooks := .later }
def FnExactToneFromCardSaid : Prop := Claim7.holds Tryd.pinned (.plain (OpenSpec.ofChange fnExactToneFromSpec)) fnExactToneFromCard

/-- THE TIED CARD OF 'laws.FnToneText'. -/
def fnToneTextCard : Claim7 := { stood := { row := fnToneTextRow, standIns := [], harness := (true, "be19127cc0c448c789caba69baff38868a12ff4c6dba2e64c47c1251b0117d47"), looks := false }, kinds := [], alts := [], laidByText := true, laidKinds := [.data, .data, .data, .data], laidTests := true, laidLooks := .later }
def FnToneTextCardSaid : Prop := Claim7.holds Tryd.pinned (.plain (OpenSpec.ofChange fnToneTextSpec)) fnToneTextCard

/-- THE TIED CARD OF 'laws.FnToneFrom'. -/
def fnToneFromCard : Claim7 := { stood := { row := fnToneFromRow, standIns := [], harness := (true, "be19127cc0c448c789caba69baff38868a12ff4c6dba2e64c47c1251b0117d47"), looks := false }, kinds := [], alts := [], laidByText := true, laidKinds := [.data, .data, .data, .data], laidTests := true, laidLooks := .later }
def FnToneFromCardSaid : Prop := Claim7.holds Tryd.pinned (.plain (OpenSpec.ofChange fnToneFromSpec)) fnToneFromCard

/-- THE TIED CARD OF 'laws.FnExactMelodyText'. -/
def fnExactMelodyTextCard : Claim7 := { stood := { row := fnExactMelodyTextRow, standIns := [], harness := (true, "be19127cc0c448c789caba69baff38868a12ff4c6dba2e64c47c1251b0117d47"), looks := false }, kinds := [], alts := [], laidByText := true, laidKinds := [.data, .data, .data, .data], laidTests := true, laidLooks := .later }
def FnExactMelodyTextCardSaid : Prop := Claim7.holds Tryd.pinned (.plain (OpenSpec.ofChange fnExactMelodyTextSpec)) fnExactMelodyTextCard

/-- THE TIED CARD OF 'laws.FnExactMelodyFrom'. -/
def fnExactMelodyFromCard : Claim7 := { stood := { row := fnExactMelodyFromRow, standIns := [], harness := (true, "be19127cc0c448c789caba69baff38868a12ff4c6dba2e64c47c1251b0117d47"), looks := false }, kinds := [], alts := [], laidByText := true, laidKinds := [.data, .data, .data, .data, .data, .pinned], laidTests := true, laidLooks := .later }
def FnExactMelodyFromCardSaid : Prop := Claim7.holds Tryd.pinned (.plain (OpenSpec.ofChange fnExactMelodyFromSpec)) fnExactMelodyFromCard

/-- THE TIED CARD OF 'laws.FnMelodyMoveOctave'. -/
def fnMelodyMoveOctaveCard : Claim7 := { stood := { row := fnMelodyMoveOctaveRow, standIns := [], harness := (true, "be19127cc0c448c789caba69baff38868a12ff4c6dba2e64c47c1251b0117d47"), looks := false }, kinds := [], alts := [], laidByText := true, laidKinds := [.data, .data], laidTests := true, laidLooks := .later }
def FnMelodyMoveOctaveCardSaid : Prop := Claim7.holds Tryd.pinned (.plain (OpenSpec.ofChange fnMelodyMoveOctaveSpec)) fnMelodyMoveOctaveCard

/-- THE SECOND FORM's CARD OF 'laws.FnExactToneLetter'. -/
def fnExactToneLetterUptoCard : Claim7 := { stood := { row := fnExactToneLetterUptoRow, standIns := [], harness := (true, "be19127cc0c448c789caba69baff38868a12ff4c6dba2e64c47c1251b0117d47"), looks := false }, kinds := [], alts := [], laidByText := true, laidKinds := [.data], laidTests := true, laidLooks := .later }
def FnExactToneLetterUptoCardSaid : Prop := Claim7.holds Tryd.pinned (.plain (OpenSpec.upto fnExactToneLetterSpec)) fnExactToneLetterUptoCard

/-- THE SECOND FORM's CARD OF 'laws.FnExactToneText'. -/
def fnExactToneTextUptoCard : Claim7 := { stood := { row := fnExactToneTextUptoRow, standIns := [], harness := (true, "be19127cc0c448c789caba69baff38868a12ff4c6dba2e64c47c1251b0117d47"), looks := false }, kinds := [], alts := [], laidByText := true, laidKinds := [.data, .data, .data, .data], laidTests := true, laidLooks := .later }
def FnExactToneTextUptoCardSaid : Prop := Claim7.holds Tryd.pinned (.plain (OpenSpec.upto fnExactToneTextSpec)) fnExactToneTextUptoCard

/-- THE SECOND FORM's CARD OF 'laws.FnExactToneFrom'. -/
def fnExactToneFromUptoCard : Claim7 := { stood := { row := fnExactToneFromUptoRow, standIns := [], harness := (true, "be19127cc0c448c789caba69baff38868a12ff4c6dba2e64c47c1251b0117d47"), looks := false }, kinds := [], alts := [], laidByText := true, laidKinds := [.data, .data, .data, .data], laidTests := true, laidLooks := .later }
def FnExactToneFromUptoCardSaid : Prop := Claim7.holds Tryd.pinned (.plain (OpenSpec.upto fnExactToneFromSpec)) fnExactToneFromUptoCard

/-- THE SECOND FORM's CARD OF 'laws.FnToneText'. -/
def fnToneTextUptoCard : Claim7 := { stood := { row := fnToneTextUptoRow, standIns := [], harness := (true, "be19127cc0c448c789caba69baff38868a12ff4c6dba2e64c47c1251b0117d47"), looks := false }, kinds := [], alts := [], laidByText := true, laidKinds := [.data, .data, .data, .data], laidTests := true, laidLooks := .later }
def FnToneTextUptoCardSaid : Prop := Claim7.holds Tryd.pinned (.plain (OpenSpec.upto fnToneTextSpec)) fnToneTextUptoCard

/-- THE SECOND FORM's CARD OF 'laws.FnToneFrom'. -/
def fnToneFromUptoCard : Claim7 := { stood := { row := fnToneFromUptoRow, standIns := [], harness := (true, "be19127cc0c448c789caba69baff38868a12ff4c6dba2e64c47c1251b0117d47"), looks := false }, kinds := [], alts := [], laidByText := true, laidKinds := [.data, .data, .data, .data], laidTests := true, laidLooks := .later }
def FnToneFromUptoCardSaid : Prop := Claim7.holds Tryd.pinned (.plain (OpenSpec.upto fnToneFromSpec)) fnToneFromUptoCard

/-- THE SECOND FORM's CARD OF 'laws.FnExactMelodyText'. -/
def fnExactMelodyTextUptoCard : Claim7 := { stood := { row := fnExactMelodyTextUptoRow, standIns := [], harness := (true, "be19127cc0c448c789caba69baff38868a12ff4c6dba2e64c47c1251b0117d47"), looks := false }, kinds := [], alts := [], laidByText := true, laidKinds := [.data, .data, .data, .data], laidTests := true, laidLooks := .later }
def FnExactMelodyTextUptoCardSaid : Prop := Claim7.holds Tryd.pinned (.plain (OpenSpec.upto fnExactMelodyTextSpec)) fnExactMelodyTextUptoCard

/-- THE SECOND FORM's CARD OF 'laws.FnExactMelodyFrom'. -/
def fnExactMelodyFromUptoCard : Claim7 := { stood := { row := fnExactMelodyFromUptoRow, standIns := [], harness := (true, "be19127cc0c448c789caba69baff38868a12ff4c6dba2e64c47c1251b0117d47"), looks := false }, kinds := [], alts := [], laidByText := true, laidKinds := [.data, .data, .data, .data, .data, .pinned], laidTests := true, laidLooks := .later }
def FnExactMelodyFromUptoCardSaid : Prop := Claim7.holds Tryd.pinned (.plain (OpenSpec.upto fnExactMelodyFromSpec)) fnExactMelodyFromUptoCard

/-- THE SECOND FORM's CARD OF 'laws.FnMelodyMoveOctave'. -/
def fnMelodyMoveOctaveUptoCard : Claim7 := { stood := { row := fnMelodyMoveOctaveUptoRow, standIns := [], harness := (true, "be19127cc0c448c789caba69baff38868a12ff4c6dba2e64c47c1251b0117d47"), looks := false }, kinds := [], alts := [], laidByText := true, laidKinds := [.data, .data], laidTests := true, laidLooks := .later }
def FnMelodyMoveOctaveUptoCardSaid : Prop := Claim7.holds Tryd.pinned (.plain (OpenSpec.upto fnMelodyMoveOctaveSpec)) fnMelodyMoveOctaveUptoCard
end Rows
end Go.Proofs.YtlinjleahnccgaaDoor
