/-
  NARROWER THAN 'FOR EVERY INPUT', by the rows' own cells (each row's printed sentence says how): FnExactToneLetter: laid · FnExactToneText: laid · FnExactToneFrom: laid · FnToneText: laid · FnToneFrom: laid · FnExactMelodyText: laid · FnExactMelodyFrom: laid · FnMelodyMoveOctave: laid.
  DERIVED. THE GIVEN ROWS OF THIS SEAT. 8 by the template 'for every input the law returns true; each argument reads behind the call as it read before'; 0 by the template 'total and deterministic' (their statements: YtlinjleahnccgaaDoorTotals.lean).
  GIVEN WITH THE SEED: the statements are not yours to turn. If you find one false, say at which input.
  Laid BY PROGRAM, IN A SANDBOX (cutbox-rows.mjs): the forced cells as the released guide's own fill.sh prints them over the translation fe6e7ca2bc5949d8… (all of the seat's roots in one cut). By AI agents, Wed Nov 11 2026. No macro, syntax, notation, axiom, sorry.
-/
import Derived.Test.YtlinjleahnccgaaDoorChecked
import GoSem.PinnedTables
import GoSem.Claim
import GoSem.ClaimJoined
import GoSem.ClaimMapViews
import Derived.JoinedTies
import Derived.KernelRfl
namespace Go.Proofs.YtlinjleahnccgaaDoor
/- THE CELL 'sum', in the pinned program and in every row, IS THE sha256 OF THE DUMP (.gsa) THAT YtlinjleahnccgaaDoorProg.lean LOADS. Nothing in Lean hashes anything: it is a label: what it is worth is what the hold of that sum in a sandbox is worth. -/
noncomputable def Tryd.pinned : Pinned := { name := "ytlinjleahnccgaadoor", sum := "fe6e7ca2bc5949d83d391d71b6c564235096b29612a614bd0952d0da550c4b8d", checked := Tryd.checked }
namespace Rows
def none {H : Type} : Left H := { results := [], args := [] }

/- WHAT THE LISTED PACKAGE-LEVEL VARIABLES READ AS WHEN THE CALL BEGINS. Each datum BY PROGRAM (the guide's laid-datum.mjs) off the statement by which the dump's own 'gosem.cut.vars' lays the variable. In a bare row this is a premise. The card (YtlinjleahnccgaaDoorCards.lean) ties it to the program's text. -/
def laid_loop_example_neumes_impl_letterNames {H : Type} : DataW H := .agg [.lit (.string [71]), .lit (.string [65]), .lit (.string [66]), .lit (.string [67]), .lit (.string [68]), .lit (.string [69]), .lit (.string [70])]
def laid_math_bits_deBruijn32tab {H : Type} : DataW H := .agg [.lit (.int .u8 0), .lit (.int .u8 1), .lit (.int .u8 28), .lit (.int .u8 2), .lit (.int .u8 29), .lit (.int .u8 14), .lit (.int .u8 24), .lit (.int .u8 3), .lit (.int .u8 30), .lit (.int .u8 22), .lit (.int .u8 20), .lit (.int .u8 15), .lit (.int .u8 25), .lit (.int .u8 17), .lit (.int .u8 4), .lit (.int .u8 8), .lit (.int .u8 31), .lit (.int .u8 27), .lit (.int .u8 13), .lit (.int .u8 23), .lit (.int .u8 21), .lit (.int .u8 19), .lit (.int .u8 16), .lit (.int .u8 7), .lit (.int .u8 26), .lit (.int .u8 12), .lit (.int .u8 18), .lit (.int .u8 6), .lit (.int .u8 11), .lit (.int .u8 5), .lit (.int .u8 10), .lit (.int .u8 9)]
def laid_math_bits_deBruijn64tab {H : Type} : DataW H := .agg [.lit (.int .u8 0), .lit (.int .u8 1), .lit (.int .u8 56), .lit (.int .u8 2), .lit (.int .u8 57), .lit (.int .u8 49), .lit (.int .u8 28), .lit (.int .u8 3), .lit (.int .u8 61), .lit (.int .u8 58), .lit (.int .u8 42), .lit (.int .u8 50), .lit (.int .u8 38), .lit (.int .u8 29), .lit (.int .u8 17), .lit (.int .u8 4), .lit (.int .u8 62), .lit (.int .u8 47), .lit (.int .u8 59), .lit (.int .u8 36), .lit (.int .u8 45), .lit (.int .u8 43), .lit (.int .u8 51), .lit (.int .u8 22), .lit (.int .u8 53), .lit (.int .u8 39), .lit (.int .u8 33), .lit (.int .u8 30), .lit (.int .u8 24), .lit (.int .u8 18), .lit (.int .u8 12), .lit (.int .u8 5), .lit (.int .u8 63), .lit (.int .u8 55), .lit (.int .u8 48), .lit (.int .u8 27), .lit (.int .u8 60), .lit (.int .u8 41), .lit (.int .u8 37), .lit (.int .u8 16), .lit (.int .u8 46), .lit (.int .u8 35), .lit (.int .u8 44), .lit (.int .u8 21), .lit (.int .u8 52), .lit (.int .u8 32), .lit (.int .u8 23), .lit (.int .u8 11), .lit (.int .u8 54), .lit (.int .u8 26), .lit (.int .u8 40), .lit (.int .u8 15), .lit (.int .u8 34), .lit (.int .u8 20), .lit (.int .u8 31), .lit (.int .u8 10), .lit (.int .u8 25), .lit (.int .u8 14), .lit (.int .u8 19), .lit (.int .u8 9), .lit (.int .u8 13), .lit (.int .u8 8), .lit (.int .u8 7), .lit (.int .u8 6)]
def laid_internal_strconv_uint64pow10 {H : Type} : DataW H := .agg [.lit (.int .u64 1), .lit (.int .u64 10), .lit (.int .u64 100), .lit (.int .u64 1000), .lit (.int .u64 10000), .lit (.int .u64 100000), .lit (.int .u64 1000000), .lit (.int .u64 10000000), .lit (.int .u64 100000000), .lit (.int .u64 1000000000), .lit (.int .u64 10000000000), .lit (.int .u64 100000000000), .lit (.int .u64 1000000000000), .lit (.int .u64 10000000000000), .lit (.int .u64 100000000000000), .lit (.int .u64 1000000000000000), .lit (.int .u64 10000000000000000), .lit (.int .u64 100000000000000000), .lit (.int .u64 1000000000000000000), .lit (.int .u64 10000000000000000000)]
def laid_unicode_utf8_acceptRanges {H : Type} : DataW H := .agg [.agg [.lit (.int .u8 128), .lit (.int .u8 191)], .agg [.lit (.int .u8 160), .lit (.int .u8 191)], .agg [.lit (.int .u8 128), .lit (.int .u8 159)], .agg [.lit (.int .u8 144), .lit (.int .u8 191)], .agg [.lit (.int .u8 128), .lit (.int .u8 143)], .agg [.lit (.int .u8 0), .lit (.int .u8 0)], .agg [.lit (.int .u8 0), .lit (.int .u8 0)], .agg [.lit (.int .u8 0), .lit (.int .u8 0)], .agg [.lit (.int .u8 0), .lit (.int .u8 0)], .agg [.lit (.int .u8 0), .lit (.int .u8 0)], .agg [.lit (.int .u8 0), .lit (.int .u8 0)], .agg [.lit (.int .u8 0), .lit (.int .u8 0)], .agg [.lit (.int .u8 0), .lit (.int .u8 0)], .agg [.lit (.int .u8 0), .lit (.int .u8 0)], .agg [.lit (.int .u8 0), .lit (.int .u8 0)], .agg [.lit (.int .u8 0), .lit (.int .u8 0)]]
/-- One of Go's own tables, pinned by name: the form's constant. -/
def laid_unicode_utf8_first : DataW Unit := Go.Pinned.utf8First
def laid_loop_example_neumes_impl_letterHeights {H : Type} : DataW H := .agg [.lit (.int .i64 0), .lit (.int .i64 2), .lit (.int .i64 4), .lit (.int .i64 5), .lit (.int .i64 7), .lit (.int .i64 9), .lit (.int .i64 10)]

/-- 'laws.FnExactToneLetter': WHATEVER THE INPUT: true; the input reads as it did. -/
def fnExactToneLetterSpec : ChangeSpec := { name := "fnExactToneLetter", vars := ["loop.example/neumes/impl.letterNames"], fn := fun _ => fun
  | [d, g1] => { results := [.lit (.bool true)], args := [d], vars := [g1] }
  | _ => none }
def fnExactToneLetterRow : OpenClaim := { program := "ytlinjleahnccgaadoor", sum := "fe6e7ca2bc5949d83d391d71b6c564235096b29612a614bd0952d0da550c4b8d", func := "loop.example/neumes/laws.FnExactToneLetter", spec := "fnExactToneLetter", named := ["loop.example/neumes/impl.letterNames"], apart := false, laid := [("loop.example/neumes/impl.letterNames", laid_loop_example_neumes_impl_letterNames)] }
def FnExactToneLetterSaid : Prop := fnExactToneLetterRow.holds Tryd.pinned (OpenSpec.ofChange fnExactToneLetterSpec)

/-- ITS FALSE NEIGHBOUR: 'it returns false'. Refute it at one input. -/
def fnExactToneLetterWrong : ChangeSpec := { name := "fnExactToneLetter", vars := ["loop.example/neumes/impl.letterNames"], fn := fun _ => fun
  | [d, g1] => { results := [.lit (.bool false)], args := [d], vars := [g1] }
  | _ => none }
def FnExactToneLetterWrongFalsely : Prop := fnExactToneLetterRow.holds Tryd.pinned (OpenSpec.ofChange fnExactToneLetterWrong)

/-- 'laws.FnExactToneText': WHATEVER THE INPUT: true; the input reads as it did. -/
def fnExactToneTextSpec : ChangeSpec := { name := "fnExactToneText", vars := ["loop.example/neumes/impl.letterNames"], fn := fun _ => fun
  | [d, g1] => { results := [.lit (.bool true)], args := [d], vars := [g1] }
  | _ => none }
def fnExactToneTextRow : OpenClaim := { program := "ytlinjleahnccgaadoor", sum := "fe6e7ca2bc5949d83d391d71b6c564235096b29612a614bd0952d0da550c4b8d", func := "loop.example/neumes/laws.FnExactToneText", spec := "fnExactToneText", recurses := true, named := ["loop.example/neumes/impl.letterNames", "internal/strconv.uint64pow10", "math/bits.deBruijn32tab", "math/bits.deBruijn64tab"], apart := false, laid := [("math/bits.deBruijn32tab", laid_math_bits_deBruijn32tab), ("math/bits.deBruijn64tab", laid_math_bits_deBruijn64tab), ("internal/strconv.uint64pow10", laid_internal_strconv_uint64pow10), ("loop.example/neumes/impl.letterNames", laid_loop_example_neumes_impl_letterNames)] }
def FnExactToneTextSaid : Prop := fnExactToneTextRow.holds Tryd.pinned (OpenSpec.ofChange fnExactToneTextSpec)

/-- ITS FALSE NEIGHBOUR: 'it returns false'. Refute it at one input. -/
def fnExactToneTextWrong : ChangeSpec := { name := "fnExactToneText", vars := ["loop.example/neumes/impl.letterNames"], fn := fun _ => fun
  | [d, g1] => { results := [.lit (.bool false)], args := [d], vars := [g1] }
  | _ => none }
def FnExactToneTextWrongFalsely : Prop := fnExactToneTextRow.holds Tryd.pinned (OpenSpec.ofChange fnExactToneTextWrong)

/-- 'laws.FnExactToneFrom': WHATEVER THE INPUT: true; the input reads as it did. -/
def fnExactToneFromSpec : ChangeSpec := { name := "fnExactToneFrom", vars := ["loop.example/neumes/impl.letterNames"], fn := fun _ => fun
  | [d, g1] => { results := [.lit (.bool true)], args := [d], vars := [g1] }
  | _ => none }
def fnExactToneFromRow : OpenClaim := { program := "ytlinjleahnccgaadoor", sum := "fe6e7ca2bc5949d83d391d71b6c564235096b29612a614bd0952d0da550c4b8d", func := "loop.example/neumes/laws.FnExactToneFrom", spec := "fnExactToneFrom", recurses := true, named := ["loop.example/neumes/impl.letterNames", "internal/strconv.uint64pow10", "math/bits.deBruijn32tab", "math/bits.deBruijn64tab"], apart := false, laid := [("math/bits.deBruijn32tab", laid_math_bits_deBruijn32tab), ("math/bits.deBruijn64tab", laid_math_bits_deBruijn64tab), ("internal/strconv.uint64pow10", laid_internal_strconv_uint64pow10), ("loop.example/neumes/impl.letterNames", laid_loop_example_neumes_impl_letterNames)] }
def FnExactToneFromSaid : Prop := fnExactToneFromRow.holds Tryd.pinned (OpenSpec.ofChange fnExactToneFromSpec)

/-- ITS FALSE NEIGHBOUR: 'it returns false'. Refute it at one input. -/
def fnExactToneFromWrong : ChangeSpec := { name := "fnExactToneFrom", vars := ["loop.example/neumes/impl.letterNames"], fn := fun _ => fun
  | [d, g1] => { results := [.lit (.bool false)], args := [d], vars := [g1] }
  | _ => none }
def FnExactToneFromWrongFalsely : Prop := fnExactToneFromRow.holds Tryd.pinned (OpenSpec.ofChange fnExactToneFromWrong)

/-- 'laws.FnToneText': WHATEVER THE INPUT: true; the input reads as it did. -/
def fnToneTextSpec : ChangeSpec := { name := "fnToneText", vars := ["loop.example/neumes/impl.letterNames"], fn := fun _ => fun
  | [d, g1] => { results := [.lit (.bool true)], args := [d], vars := [g1] }
  | _ => none }
def fnToneTextRow : OpenClaim := { program := "ytlinjleahnccgaadoor", sum := "fe6e7ca2bc5949d83d391d71b6c564235096b29612a614bd0952d0da550c4b8d", func := "loop.example/neumes/laws.FnToneText", spec := "fnToneText", recurses := true, named := ["loop.example/neumes/impl.letterNames", "internal/strconv.uint64pow10", "math/bits.deBruijn32tab", "math/bits.deBruijn64tab"], apart := false, laid := [("math/bits.deBruijn32tab", laid_math_bits_deBruijn32tab), ("math/bits.deBruijn64tab", laid_math_bits_deBruijn64tab), ("internal/strconv.uint64pow10", laid_internal_strconv_uint64pow10), ("loop.example/neumes/impl.letterNames", laid_loop_example_neumes_impl_letterNames)] }
def FnToneTextSaid : Prop := fnToneTextRow.holds Tryd.pinned (OpenSpec.ofChange fnToneTextSpec)

/-- ITS FALSE NEIGHBOUR: 'it returns false'. Refute it at one input. -/
def fnToneTextWrong : ChangeSpec := { name := "fnToneText", vars := ["loop.example/neumes/impl.letterNames"], fn := fun _ => fun
  | [d, g1] => { results := [.lit (.bool false)], args := [d], vars := [g1] }
  | _ => none }
def FnToneTextWrongFalsely : Prop := fnToneTextRow.holds Tryd.pinned (OpenSpec.ofChange fnToneTextWrong)

/-- 'laws.FnToneFrom': WHATEVER THE INPUT: true; the input reads as it did. -/
def fnToneFromSpec : ChangeSpec := { name := "fnToneFrom", vars := ["loop.example/neumes/impl.letterNames"], fn := fun _ => fun
  | [d, g1] => { results := [.lit (.bool true)], args := [d], vars := [g1] }
  | _ => none }
def fnToneFromRow : OpenClaim := { program := "ytlinjleahnccgaadoor", sum := "fe6e7ca2bc5949d83d391d71b6c564235096b29612a614bd0952d0da550c4b8d", func := "loop.example/neumes/laws.FnToneFrom", spec := "fnToneFrom", recurses := true, named := ["loop.example/neumes/impl.letterNames", "internal/strconv.uint64pow10", "math/bits.deBruijn32tab", "math/bits.deBruijn64tab"], apart := false, laid := [("math/bits.deBruijn32tab", laid_math_bits_deBruijn32tab), ("math/bits.deBruijn64tab", laid_math_bits_deBruijn64tab), ("internal/strconv.uint64pow10", laid_internal_strconv_uint64pow10), ("loop.example/neumes/impl.letterNames", laid_loop_example_neumes_impl_letterNames)] }
def FnToneFromSaid : Prop := fnToneFromRow.holds Tryd.pinned (OpenSpec.ofChange fnToneFromSpec)

/-- ITS FALSE NEIGHBOUR: 'it returns false'. Refute it at one input. -/
def fnToneFromWrong : ChangeSpec := { name := "fnToneFrom", vars := ["loop.example/neumes/impl.letterNames"], fn := fun _ => fun
  | [d, g1] => { results := [.lit (.bool false)], args := [d], vars := [g1] }
  | _ => none }
def FnToneFromWrongFalsely : Prop := fnToneFromRow.holds Tryd.pinned (OpenSpec.ofChange fnToneFromWrong)

/-- 'laws.FnExactMelodyText': WHATEVER THE INPUT: true; the input reads as it did. -/
def fnExactMelodyTextSpec : ChangeSpec := { name := "fnExactMelodyText", vars := ["loop.example/neumes/impl.letterNames"], fn := fun _ => fun
  | [d, g1] => { results := [.lit (.bool true)], args := [d], vars := [g1] }
  | _ => none }
def fnExactMelodyTextRow : OpenClaim := { program := "ytlinjleahnccgaadoor", sum := "fe6e7ca2bc5949d83d391d71b6c564235096b29612a614bd0952d0da550c4b8d", func := "loop.example/neumes/laws.FnExactMelodyText", spec := "fnExactMelodyText", inPlace := ["internal/abi.NoEscape", "internal/bytealg.MakeNoZero"], recurses := true, named := ["loop.example/neumes/impl.letterNames", "internal/strconv.uint64pow10", "math/bits.deBruijn32tab", "math/bits.deBruijn64tab"], apart := false, laid := [("math/bits.deBruijn32tab", laid_math_bits_deBruijn32tab), ("math/bits.deBruijn64tab", laid_math_bits_deBruijn64tab), ("internal/strconv.uint64pow10", laid_internal_strconv_uint64pow10), ("loop.example/neumes/impl.letterNames", laid_loop_example_neumes_impl_letterNames)] }
def FnExactMelodyTextSaid : Prop := fnExactMelodyTextRow.holds Tryd.pinned (OpenSpec.ofChange fnExactMelodyTextSpec)

/-- ITS FALSE NEIGHBOUR: 'it returns false'. Refute it at one input. -/
def fnExactMelodyTextWrong : ChangeSpec := { name := "fnExactMelodyText", vars := ["loop.example/neumes/impl.letterNames"], fn := fun _ => fun
  | [d, g1] => { results := [.lit (.bool false)], args := [d], vars := [g1] }
  | _ => none }
def FnExactMelodyTextWrongFalsely : Prop := fnExactMelodyTextRow.holds Tryd.pinned (OpenSpec.ofChange fnExactMelodyTextWrong)

/-- 'laws.FnExactMelodyFrom': WHATEVER THE INPUT: true; the input reads as it did. -/
def fnExactMelodyFromSpec : ChangeSpec := { name := "fnExactMelodyFrom", vars := ["loop.example/neumes/impl.letterNames"], fn := fun _ => fun
  | [d, g1] => { results := [.lit (.bool true)], args := [d], vars := [g1] }
  | _ => none }
def fnExactMelodyFromRow : OpenClaim := { program := "ytlinjleahnccgaadoor", sum := "fe6e7ca2bc5949d83d391d71b6c564235096b29612a614bd0952d0da550c4b8d", func := "loop.example/neumes/laws.FnExactMelodyFrom", spec := "fnExactMelodyFrom", inPlace := ["internal/bytealg.CountString", "internal/bytealg.IndexByteString", "internal/bytealg.IndexString"], recurses := true, named := ["unicode/utf8.first", "unicode/utf8.acceptRanges", "internal/bytealg.MaxLen", "loop.example/neumes/impl.letterNames", "internal/strconv.uint64pow10", "math/bits.deBruijn32tab", "math/bits.deBruijn64tab"], apart := false, laid := [("math/bits.deBruijn32tab", laid_math_bits_deBruijn32tab), ("math/bits.deBruijn64tab", laid_math_bits_deBruijn64tab), ("internal/strconv.uint64pow10", laid_internal_strconv_uint64pow10), ("unicode/utf8.acceptRanges", laid_unicode_utf8_acceptRanges), ("loop.example/neumes/impl.letterNames", laid_loop_example_neumes_impl_letterNames), ("unicode/utf8.first", laid_unicode_utf8_first)] }
def FnExactMelodyFromSaid : Prop := fnExactMelodyFromRow.holds Tryd.pinned (OpenSpec.ofChange fnExactMelodyFromSpec)

/-- ITS FALSE NEIGHBOUR: 'it returns false'. Refute it at one input. -/
def fnExactMelodyFromWrong : ChangeSpec := { name := "fnExactMelodyFrom", vars := ["loop.example/neumes/impl.letterNames"], fn := fun _ => fun
  | [d, g1] => { results := [.lit (.bool false)], args := [d], vars := [g1] }
  | _ => none }
def FnExactMelodyFromWrongFalsely : Prop := fnExactMelodyFromRow.holds Tryd.pinned (OpenSpec.ofChange fnExactMelodyFromWrong)

/-- 'laws.FnMelodyMoveOctave': WHATEVER THE INPUT: true; the input reads as it did. -/
def fnMelodyMoveOctaveSpec : ChangeSpec := { name := "fnMelodyMoveOctave", vars := ["loop.example/neumes/impl.letterHeights", "loop.example/neumes/impl.letterNames"], fn := fun _ => fun
  | [d, g1, g2] => { results := [.lit (.bool true)], args := [d], vars := [g1, g2] }
  | _ => none }
def fnMelodyMoveOctaveRow : OpenClaim := { program := "ytlinjleahnccgaadoor", sum := "fe6e7ca2bc5949d83d391d71b6c564235096b29612a614bd0952d0da550c4b8d", func := "loop.example/neumes/laws.FnMelodyMoveOctave", spec := "fnMelodyMoveOctave", named := ["loop.example/neumes/impl.letterHeights", "loop.example/neumes/impl.letterNames"], apart := false, laid := [("loop.example/neumes/impl.letterNames", laid_loop_example_neumes_impl_letterNames), ("loop.example/neumes/impl.letterHeights", laid_loop_example_neumes_impl_letterHeights)] }
def FnMelodyMoveOctaveSaid : Prop := fnMelodyMoveOctaveRow.holds Tryd.pinned (OpenSpec.ofChange fnMelodyMoveOctaveSpec)

/-- ITS FALSE NEIGHBOUR: 'it returns false'. Refute it at one input. -/
def fnMelodyMoveOctaveWrong : ChangeSpec := { name := "fnMelodyMoveOctave", vars := ["loop.example/neumes/impl.letterHeights", "loop.example/neumes/impl.letterNames"], fn := fun _ => fun
  | [d, g1, g2] => { results := [.lit (.bool false)], args := [d], vars := [g1, g2] }
  | _ => none }
def FnMelodyMoveOctaveWrongFalsely : Prop := fnMelodyMoveOctaveRow.holds Tryd.pinned (OpenSpec.ofChange fnMelodyMoveOctaveWrong)

/- THE SECOND FORM. 'bulk': how many values and letters a reading holds, each counted each time it is reached (what is shared counts as often as it is met; a slice's spare places count too). A statement '..UptoSaid' is the law's where the arguments, and the package variables that the reading takes, are together of bulk at most 1048576: NARROWER than '..Said'. Prove '..Said' where nothing that the law and all that it calls make is longer than what came in: it says more and counts as full. Else prove '..UptoSaid'. A law counts once. -/
mutual
def uptoBulk {H : Type} : DataW H → Nat
  | .lit (.string bytes) => bytes.length + 1
  | .lit _ => 1
  | .nil => 1
  | .ptr d => uptoBulk d + 1
  | .slice elems spare => uptoBulkAll elems + uptoBulkAll spare + 1
  | .agg parts => uptoBulkAll parts + 1
  | .iface _ d => uptoBulk d + 1
  | .map entries => uptoBulkEntries entries + 1
  | .held _ => 1
def uptoBulkAll {H : Type} : List (DataW H) → Nat
  | [] => 0
  | d :: r => uptoBulk d + uptoBulkAll r
def uptoBulkEntries {H : Type} : List (Lit × DataW H) → Nat
  | [] => 0
  | x :: r => uptoBulkEntry x + uptoBulkEntries r
def uptoBulkEntry {H : Type} : Lit × DataW H → Nat
  | (.string bytes, d) => bytes.length + uptoBulk d + 1
  | (_, d) => uptoBulk d + 1
 end
def uptoSmall : (H : Type) → List (DataW H) → Bool := fun _ ds => decide (uptoBulkAll ds ≤ 1048576)
def OpenSpec.upto (s : _root_.Go.ChangeSpec) : _root_.Go.OpenSpec := { _root_.Go.OpenSpec.ofChange s with cond := some uptoSmall }

/-- 'laws.FnExactToneLetter', WHERE WHAT IT READS IS OF BULK AT MOST 1048576: true; the input reads as it did. -/
def fnExactToneLetterUptoRow : OpenClaim := { program := "ytlinjleahnccgaadoor", sum := "fe6e7ca2bc5949d83d391d71b6c564235096b29612a614bd0952d0da550c4b8d", func := "loop.example/neumes/laws.FnExactToneLetter", spec := "fnExactToneLetter", named := ["loop.example/neumes/impl.letterNames"], apart := false, laid := [("loop.example/neumes/impl.letterNames", laid_loop_example_neumes_impl_letterNames)], narrowed := true }
def FnExactToneLetterUptoSaid : Prop := fnExactToneLetterUptoRow.holds Tryd.pinned (OpenSpec.upto fnExactToneLetterSpec)

/-- 'laws.FnExactToneText', WHERE WHAT IT READS IS OF BULK AT MOST 1048576: true; the input reads as it did. -/
def fnExactToneTextUptoRow : OpenClaim := { program := "ytlinjleahnccgaadoor", sum := "fe6e7ca2bc5949d83d391d71b6c564235096b29612a614bd0952d0da550c4b8d", func := "loop.example/neumes/laws.FnExactToneText", spec := "fnExactToneText", recurses := true, named := ["loop.example/neumes/impl.letterNames", "internal/strconv.uint64pow10", "math/bits.deBruijn32tab", "math/bits.deBruijn64tab"], apart := false, laid := [("math/bits.deBruijn32tab", laid_math_bits_deBruijn32tab), ("math/bits.deBruijn64tab", laid_math_bits_deBruijn64tab), ("internal/strconv.uint64pow10", laid_internal_strconv_uint64pow10), ("loop.example/neumes/impl.letterNames", laid_loop_example_neumes_impl_letterNames)], narrowed := true }
def FnExactToneTextUptoSaid : Prop := fnExactToneTextUptoRow.holds Tryd.pinned (OpenSpec.upto fnExactToneTextSpec)

/-- 'laws.FnExactToneFrom', WHERE WHAT IT READS IS OF BULK AT MOST 1048576: true; the input reads as it did. -/
def fnExactToneFromUptoRow : OpenClaim := { program := "ytlinjleahnccgaadoor", sum := "fe6e7ca2bc5949d83d391d71b6c564235096b29612a614bd0952d0da550c4b8d", func := "loop.example/neumes/laws.FnExactToneFrom", spec := "fnExactToneFrom", recurses := true, named := ["loop.example/neumes/impl.letterNames", "internal/strconv.uint64pow10", "math/bits.deBruijn32tab", "math/bits.deBruijn64tab"], apart := false, laid := [("math/bits.deBruijn32tab", laid_math_bits_deBruijn32tab), ("math/bits.deBruijn64tab", laid_math_bits_deBruijn64tab), ("internal/strconv.uint64pow10", laid_internal_strconv_uint64pow10), ("loop.example/neumes/impl.letterNames", laid_loop_example_neumes_impl_letterNames)], narrowed := true }
def FnExactToneFromUptoSaid : Prop := fnExactToneFromUptoRow.holds Tryd.pinned (OpenSpec.upto fnExactToneFromSpec)

/-- 'laws.FnToneText', WHERE WHAT IT READS IS OF BULK AT MOST 1048576: true; the input reads as it did. -/
def fnToneTextUptoRow : OpenClaim := { program := "ytlinjleahnccgaadoor", sum := "fe6e7ca2bc5949d83d391d71b6c564235096b29612a614bd0952d0da550c4b8d", func := "loop.example/neumes/laws.FnToneText", spec := "fnToneText", recurses := true, named := ["loop.example/neumes/impl.letterNames", "internal/strconv.uint64pow10", "math/bits.deBruijn32tab", "math/bits.deBruijn64tab"], apart := false, laid := [("math/bits.deBruijn32tab", laid_math_bits_deBruijn32tab), ("math/bits.deBruijn64tab", laid_math_bits_deBruijn64tab), ("internal/strconv.uint64pow10", laid_internal_strconv_uint64pow10), ("loop.example/neumes/impl.letterNames", laid_loop_example_neumes_impl_letterNames)], narrowed := true }
def FnToneTextUptoSaid : Prop := fnToneTextUptoRow.holds Tryd.pinned (OpenSpec.upto fnToneTextSpec)

/-- 'laws.FnToneFrom', WHERE WHAT IT READS IS OF BULK AT MOST 1048576: true; the input reads as it did. -/
def fnToneFromUptoRow : OpenClaim := { program := "ytlinjleahnccgaadoor", sum := "fe6e7ca2bc5949d83d391d71b6c564235096b29612a614bd0952d0da550c4b8d", func := "loop.example/neumes/laws.FnToneFrom", spec := "fnToneFrom", recurses := true, named := ["loop.example/neumes/impl.letterNames", "internal/strconv.uint64pow10", "math/bits.deBruijn32tab", "math/bits.deBruijn64tab"], apart := false, laid := [("math/bits.deBruijn32tab", laid_math_bits_deBruijn32tab), ("math/bits.deBruijn64tab", laid_math_bits_deBruijn64tab), ("internal/strconv.uint64pow10", laid_internal_strconv_uint64pow10), ("loop.example/neumes/impl.letterNames", laid_loop_example_neumes_impl_letterNames)], narrowed := true }
def FnToneFromUptoSaid : Prop := fnToneFromUptoRow.holds Tryd.pinned (OpenSpec.upto fnToneFromSpec)

/-- 'laws.FnExactMelodyText', WHERE WHAT IT READS IS OF BULK AT MOST 1048576: true; the input reads as it did. -/
def fnExactMelodyTextUptoRow : OpenClaim := { program := "ytlinjleahnccgaadoor", sum := "fe6e7ca2bc5949d83d391d71b6c564235096b29612a614bd0952d0da550c4b8d", func := "loop.example/neumes/laws.FnExactMelodyText", spec := "fnExactMelodyText", inPlace := ["internal/abi.NoEscape", "internal/bytealg.MakeNoZero"], recurses := true, named := ["loop.example/neumes/impl.letterNames", "internal/strconv.uint64pow10", "math/bits.deBruijn32tab", "math/bits.deBruijn64tab"], apart := false, laid := [("math/bits.deBruijn32tab", laid_math_bits_deBruijn32tab), ("math/bits.deBruijn64tab", laid_math_bits_deBruijn64tab), ("internal/strconv.uint64pow10", laid_internal_strconv_uint64pow10), ("loop.example/neumes/impl.letterNames", laid_loop_example_neumes_impl_letterNames)], narrowed := true }
def FnExactMelodyTextUptoSaid : Prop := fnExactMelodyTextUptoRow.holds Tryd.pinned (OpenSpec.upto fnExactMelodyTextSpec)

/-- 'laws.FnExactMelodyFrom', WHERE WHAT IT READS IS OF BULK AT MOST 1048576: true; the input reads as it did. -/
def fnExactMelodyFromUptoRow : OpenClaim := { program := "ytlinjleahnccgaadoor", sum := "fe6e7ca2bc5949d83d391d71b6c564235096b29612a614bd0952d0da550c4b8d", func := "loop.example/neumes/laws.FnExactMelodyFrom", spec := "fnExactMelodyFrom", inPlace := ["internal/bytealg.CountString", "internal/bytealg.IndexByteString", "internal/bytealg.IndexString"], recurses := true, named := ["unicode/utf8.first", "unicode/utf8.acceptRanges", "internal/bytealg.MaxLen", "loop.example/neumes/impl.letterNames", "internal/strconv.uint64pow10", "math/bits.deBruijn32tab", "math/bits.deBruijn64tab"], apart := false, laid := [("math/bits.deBruijn32tab", laid_math_bits_deBruijn32tab), ("math/bits.deBruijn64tab", laid_math_bits_deBruijn64tab), ("internal/strconv.uint64pow10", laid_internal_strconv_uint64pow10), ("unicode/utf8.acceptRanges", laid_unicode_utf8_acceptRanges), ("loop.example/neumes/impl.letterNames", laid_loop_example_neumes_impl_letterNames), ("unicode/utf8.first", laid_unicode_utf8_first)], narrowed := true }
def FnExactMelodyFromUptoSaid : Prop := fnExactMelodyFromUptoRow.holds Tryd.pinned (OpenSpec.upto fnExactMelodyFromSpec)

/-- 'laws.FnMelodyMoveOctave', WHERE WHAT IT READS IS OF BULK AT MOST 1048576: true; the input reads as it did. -/
def fnMelodyMoveOctaveUptoRow : OpenClaim := { program := "ytlinjleahnccgaadoor", sum := "fe6e7ca2bc5949d83d391d71b6c564235096b29612a614bd0952d0da550c4b8d", func := "loop.example/neumes/laws.FnMelodyMoveOctave", spec := "fnMelodyMoveOctave", named := ["loop.example/neumes/impl.letterHeights", "loop.example/neumes/impl.letterNames"], apart := false, laid := [("loop.example/neumes/impl.letterNames", laid_loop_example_neumes_impl_letterNames), ("loop.example/neumes/impl.letterHeights", laid_loop_example_neumes_impl_letterHeights)], narrowed := true }
def FnMelodyMoveOctaveUptoSaid : Prop := fnMelodyMoveOctaveUptoRow.holds Tryd.pinned (OpenSpec.upto fnMelodyMoveOctaveSpec)

end Rows
end Go.Proofs.YtlinjleahnccgaaDoor
