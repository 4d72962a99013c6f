/-
  NARROWER THAN 'FOR EVERY INPUT', by the rows' own cells (each row's printed sentence says how): FnExactGroupsNames: laid · FnExactGroupsRead: laid · FnGroups: laid · FnGroupsCut: laid · FnNeumeContour: laid · FnGroupsRead: laid.
  DERIVED. THE GIVEN ROWS OF THIS SEAT. 6 by the template 'for every input the law returns true; each argument reads behind the call as it read before'; 0 by the template 'total and deterministic' (their statements: YtldepdaglapdeaaDoorTotals.lean).
  GIVEN WITH THE SEED: the statements are not yours to turn. If you find one false, say at which input.
  Laid BY PROGRAM, IN A SANDBOX (cutbox-rows.mjs): the forced cells as the released guide's own fill.sh prints them over the translation f43e7ed956a9fae0… (all of the seat's roots in one cut). By AI agents, Wed Nov 11 2026. No macro, syntax, notation, axiom, sorry.
-/
import Derived.Test.YtldepdaglapdeaaDoorChecked
import GoSem.PinnedTables
import GoSem.Claim
import GoSem.ClaimJoined
import GoSem.ClaimMapViews
import Derived.JoinedTies
import Derived.KernelRfl
namespace Go.Proofs.YtldepdaglapdeaaDoor
/- THE CELL 'sum', in the pinned program and in every row, IS THE sha256 OF THE DUMP (.gsa) THAT YtldepdaglapdeaaDoorProg.lean LOADS. Nothing in Lean hashes anything: it is a label: what it is worth is what the hold of that sum in a sandbox is worth. -/
noncomputable def Tryd.pinned : Pinned := { name := "ytldepdaglapdeaadoor", sum := "f43e7ed956a9fae06df6ab1c4b66bb86215b4e153b88d1382c2738200d8ffc47", checked := Tryd.checked }
namespace Rows
def none {H : Type} : Left H := { results := [], args := [] }

/- WHAT THE LISTED PACKAGE-LEVEL VARIABLES READ AS WHEN THE CALL BEGINS. Each datum BY PROGRAM (the guide's laid-datum.mjs) off the statement by which the dump's own 'gosem.cut.vars' lays the variable. In a bare row this is a premise. The card (YtldepdaglapdeaaDoorCards.lean) ties it to the program's text. -/
def laid_unicode_utf8_acceptRanges {H : Type} : DataW H := .agg [.agg [.lit (.int .u8 128), .lit (.int .u8 191)], .agg [.lit (.int .u8 160), .lit (.int .u8 191)], .agg [.lit (.int .u8 128), .lit (.int .u8 159)], .agg [.lit (.int .u8 144), .lit (.int .u8 191)], .agg [.lit (.int .u8 128), .lit (.int .u8 143)], .agg [.lit (.int .u8 0), .lit (.int .u8 0)], .agg [.lit (.int .u8 0), .lit (.int .u8 0)], .agg [.lit (.int .u8 0), .lit (.int .u8 0)], .agg [.lit (.int .u8 0), .lit (.int .u8 0)], .agg [.lit (.int .u8 0), .lit (.int .u8 0)], .agg [.lit (.int .u8 0), .lit (.int .u8 0)], .agg [.lit (.int .u8 0), .lit (.int .u8 0)], .agg [.lit (.int .u8 0), .lit (.int .u8 0)], .agg [.lit (.int .u8 0), .lit (.int .u8 0)], .agg [.lit (.int .u8 0), .lit (.int .u8 0)], .agg [.lit (.int .u8 0), .lit (.int .u8 0)]]
def laid_loop_example_neumes_impl_neumeRows {H : Type} : DataW H := .agg [.agg [.lit (.string []), .lit (.string [112, 117, 110, 99, 116, 117, 109])], .agg [.lit (.string [117]), .lit (.string [112, 101, 115])], .agg [.lit (.string [100]), .lit (.string [99, 108, 105, 118, 105, 115])], .agg [.lit (.string [117, 100]), .lit (.string [116, 111, 114, 99, 117, 108, 117, 115])], .agg [.lit (.string [100, 117]), .lit (.string [112, 111, 114, 114, 101, 99, 116, 117, 115])], .agg [.lit (.string [117, 117]), .lit (.string [115, 99, 97, 110, 100, 105, 99, 117, 115])], .agg [.lit (.string [100, 100]), .lit (.string [99, 108, 105, 109, 97, 99, 117, 115])]]
/-- One of Go's own tables, pinned by name: the form's constant. -/
def laid_unicode_CaseRanges : DataW Unit := Go.Pinned.caseRanges
/-- One of Go's own tables, pinned by name: the form's constant. -/
def laid_unicode_utf8_first : DataW Unit := Go.Pinned.utf8First

/-- 'laws.FnExactGroupsNames': WHATEVER THE INPUT: true; the input reads as it did. -/
def fnExactGroupsNamesSpec : ChangeSpec := { name := "fnExactGroupsNames", vars := ["loop.example/neumes/impl.neumeRows"], fn := fun _ => fun
  | [d1, d2, g1] => { results := [.lit (.bool true)], args := [d1, d2], vars := [g1] }
  | _ => none }
def fnExactGroupsNamesRow : OpenClaim := { program := "ytldepdaglapdeaadoor", sum := "f43e7ed956a9fae06df6ab1c4b66bb86215b4e153b88d1382c2738200d8ffc47", func := "loop.example/neumes/laws.FnExactGroupsNames", spec := "fnExactGroupsNames", inPlace := ["internal/bytealg.IndexByteString", "internal/bytealg.IndexString", "internal/abi.NoEscape", "internal/bytealg.MakeNoZero"], unfollowed := true, recurses := true, named := ["loop.example/neumes/impl.neumeRows", "unicode/utf8.first", "unicode/utf8.acceptRanges", "unicode.CaseRanges", "internal/bytealg.MaxLen"], apart := false, laid := [("unicode/utf8.acceptRanges", laid_unicode_utf8_acceptRanges), ("loop.example/neumes/impl.neumeRows", laid_loop_example_neumes_impl_neumeRows), ("unicode.CaseRanges", laid_unicode_CaseRanges), ("unicode/utf8.first", laid_unicode_utf8_first)] }
def FnExactGroupsNamesSaid : Prop := fnExactGroupsNamesRow.holds Tryd.pinned (OpenSpec.ofChange fnExactGroupsNamesSpec)

/-- ITS FALSE NEIGHBOUR: 'it returns false'. Refute it at one input. -/
def fnExactGroupsNamesWrong : ChangeSpec := { name := "fnExactGroupsNames", vars := ["loop.example/neumes/impl.neumeRows"], fn := fun _ => fun
  | [d1, d2, g1] => { results := [.lit (.bool false)], args := [d1, d2], vars := [g1] }
  | _ => none }
def FnExactGroupsNamesWrongFalsely : Prop := fnExactGroupsNamesRow.holds Tryd.pinned (OpenSpec.ofChange fnExactGroupsNamesWrong)

/-- 'laws.FnExactGroupsRead': WHATEVER THE INPUT: true; the input reads as it did. -/
def fnExactGroupsReadSpec : ChangeSpec := { name := "fnExactGroupsRead", vars := ["loop.example/neumes/impl.neumeRows"], fn := fun _ => fun
  | [d1, d2, d3, g1] => { results := [.lit (.bool true)], args := [d1, d2, d3], vars := [g1] }
  | _ => none }
def fnExactGroupsReadRow : OpenClaim := { program := "ytldepdaglapdeaadoor", sum := "f43e7ed956a9fae06df6ab1c4b66bb86215b4e153b88d1382c2738200d8ffc47", func := "loop.example/neumes/laws.FnExactGroupsRead", spec := "fnExactGroupsRead", inPlace := ["internal/bytealg.IndexByteString", "internal/bytealg.IndexString", "internal/abi.NoEscape", "internal/bytealg.MakeNoZero"], unfollowed := true, recurses := true, named := ["loop.example/neumes/impl.neumeRows", "unicode/utf8.first", "unicode/utf8.acceptRanges", "unicode.CaseRanges", "internal/bytealg.MaxLen"], apart := false, laid := [("unicode/utf8.acceptRanges", laid_unicode_utf8_acceptRanges), ("loop.example/neumes/impl.neumeRows", laid_loop_example_neumes_impl_neumeRows), ("unicode.CaseRanges", laid_unicode_CaseRanges), ("unicode/utf8.first", laid_unicode_utf8_first)] }
def FnExactGroupsReadSaid : Prop := fnExactGroupsReadRow.holds Tryd.pinned (OpenSpec.ofChange fnExactGroupsReadSpec)

/-- ITS FALSE NEIGHBOUR: 'it returns false'. Refute it at one input. -/
def fnExactGroupsReadWrong : ChangeSpec := { name := "fnExactGroupsRead", vars := ["loop.example/neumes/impl.neumeRows"], fn := fun _ => fun
  | [d1, d2, d3, g1] => { results := [.lit (.bool false)], args := [d1, d2, d3], vars := [g1] }
  | _ => none }
def FnExactGroupsReadWrongFalsely : Prop := fnExactGroupsReadRow.holds Tryd.pinned (OpenSpec.ofChange fnExactGroupsReadWrong)

/-- 'laws.FnGroups': WHATEVER THE INPUT: true; the input reads as it did. -/
def fnGroupsSpec : ChangeSpec := { name := "fnGroups", vars := ["loop.example/neumes/impl.neumeRows"], fn := fun _ => fun
  | [d, g1] => { results := [.lit (.bool true)], args := [d], vars := [g1] }
  | _ => none }
def fnGroupsRow : OpenClaim := { program := "ytldepdaglapdeaadoor", sum := "f43e7ed956a9fae06df6ab1c4b66bb86215b4e153b88d1382c2738200d8ffc47", func := "loop.example/neumes/laws.FnGroups", spec := "fnGroups", inPlace := ["internal/bytealg.IndexByteString", "internal/bytealg.IndexString", "internal/abi.NoEscape", "internal/bytealg.MakeNoZero"], unfollowed := true, recurses := true, named := ["loop.example/neumes/impl.neumeRows", "unicode/utf8.first", "unicode/utf8.acceptRanges", "unicode.CaseRanges", "internal/bytealg.MaxLen"], apart := false, laid := [("unicode/utf8.acceptRanges", laid_unicode_utf8_acceptRanges), ("loop.example/neumes/impl.neumeRows", laid_loop_example_neumes_impl_neumeRows), ("unicode.CaseRanges", laid_unicode_CaseRanges), ("unicode/utf8.first", laid_unicode_utf8_first)] }
def FnGroupsSaid : Prop := fnGroupsRow.holds Tryd.pinned (OpenSpec.ofChange fnGroupsSpec)

/-- ITS FALSE NEIGHBOUR: 'it returns false'. Refute it at one input. -/
def fnGroupsWrong : ChangeSpec := { name := "fnGroups", vars := ["loop.example/neumes/impl.neumeRows"], fn := fun _ => fun
  | [d, g1] => { results := [.lit (.bool false)], args := [d], vars := [g1] }
  | _ => none }
def FnGroupsWrongFalsely : Prop := fnGroupsRow.holds Tryd.pinned (OpenSpec.ofChange fnGroupsWrong)

/-- 'laws.FnGroupsCut': WHATEVER THE INPUT: true; the input reads as it did. -/
def fnGroupsCutSpec : ChangeSpec := { name := "fnGroupsCut", vars := ["loop.example/neumes/impl.neumeRows"], fn := fun _ => fun
  | [d, g1] => { results := [.lit (.bool true)], args := [d], vars := [g1] }
  | _ => none }
def fnGroupsCutRow : OpenClaim := { program := "ytldepdaglapdeaadoor", sum := "f43e7ed956a9fae06df6ab1c4b66bb86215b4e153b88d1382c2738200d8ffc47", func := "loop.example/neumes/laws.FnGroupsCut", spec := "fnGroupsCut", inPlace := ["internal/bytealg.IndexByteString", "internal/bytealg.IndexString", "internal/abi.NoEscape", "internal/bytealg.MakeNoZero"], unfollowed := true, recurses := true, named := ["loop.example/neumes/impl.neumeRows", "unicode/utf8.first", "unicode/utf8.acceptRanges", "unicode.CaseRanges", "internal/bytealg.MaxLen"], apart := false, laid := [("unicode/utf8.acceptRanges", laid_unicode_utf8_acceptRanges), ("loop.example/neumes/impl.neumeRows", laid_loop_example_neumes_impl_neumeRows), ("unicode.CaseRanges", laid_unicode_CaseRanges), ("unicode/utf8.first", laid_unicode_utf8_first)] }
def FnGroupsCutSaid : Prop := fnGroupsCutRow.holds Tryd.pinned (OpenSpec.ofChange fnGroupsCutSpec)

/-- ITS FALSE NEIGHBOUR: 'it returns false'. Refute it at one input. -/
def fnGroupsCutWrong : ChangeSpec := { name := "fnGroupsCut", vars := ["loop.example/neumes/impl.neumeRows"], fn := fun _ => fun
  | [d, g1] => { results := [.lit (.bool false)], args := [d], vars := [g1] }
  | _ => none }
def FnGroupsCutWrongFalsely : Prop := fnGroupsCutRow.holds Tryd.pinned (OpenSpec.ofChange fnGroupsCutWrong)

/-- 'laws.FnNeumeContour': WHATEVER THE INPUT: true; the input reads as it did. -/
def fnNeumeContourSpec : ChangeSpec := { name := "fnNeumeContour", vars := ["loop.example/neumes/impl.neumeRows"], fn := fun _ => fun
  | [d, g1] => { results := [.lit (.bool true)], args := [d], vars := [g1] }
  | _ => none }
def fnNeumeContourRow : OpenClaim := { program := "ytldepdaglapdeaadoor", sum := "f43e7ed956a9fae06df6ab1c4b66bb86215b4e153b88d1382c2738200d8ffc47", func := "loop.example/neumes/laws.FnNeumeContour", spec := "fnNeumeContour", inPlace := ["internal/bytealg.IndexByteString", "internal/bytealg.IndexString", "internal/abi.NoEscape", "internal/bytealg.MakeNoZero"], unfollowed := true, recurses := true, named := ["loop.example/neumes/impl.neumeRows", "unicode/utf8.first", "unicode/utf8.acceptRanges", "unicode.CaseRanges", "internal/bytealg.MaxLen"], apart := false, laid := [("unicode/utf8.acceptRanges", laid_unicode_utf8_acceptRanges), ("loop.example/neumes/impl.neumeRows", laid_loop_example_neumes_impl_neumeRows), ("unicode.CaseRanges", laid_unicode_CaseRanges), ("unicode/utf8.first", laid_unicode_utf8_first)] }
def FnNeumeContourSaid : Prop := fnNeumeContourRow.holds Tryd.pinned (OpenSpec.ofChange fnNeumeContourSpec)

/-- ITS FALSE NEIGHBOUR: 'it returns false'. Refute it at one input. -/
def fnNeumeContourWrong : ChangeSpec := { name := "fnNeumeContour", vars := ["loop.example/neumes/impl.neumeRows"], fn := fun _ => fun
  | [d, g1] => { results := [.lit (.bool false)], args := [d], vars := [g1] }
  | _ => none }
def FnNeumeContourWrongFalsely : Prop := fnNeumeContourRow.holds Tryd.pinned (OpenSpec.ofChange fnNeumeContourWrong)

/-- 'laws.FnGroupsRead': WHATEVER THE INPUT: true; the input reads as it did. -/
def fnGroupsReadSpec : ChangeSpec := { name := "fnGroupsRead", vars := ["loop.example/neumes/impl.neumeRows"], fn := fun _ => fun
  | [d1, d2, g1] => { results := [.lit (.bool true)], args := [d1, d2], vars := [g1] }
  | _ => none }
def fnGroupsReadRow : OpenClaim := { program := "ytldepdaglapdeaadoor", sum := "f43e7ed956a9fae06df6ab1c4b66bb86215b4e153b88d1382c2738200d8ffc47", func := "loop.example/neumes/laws.FnGroupsRead", spec := "fnGroupsRead", inPlace := ["internal/bytealg.IndexByteString", "internal/bytealg.IndexString", "internal/abi.NoEscape", "internal/bytealg.MakeNoZero"], unfollowed := true, recurses := true, named := ["loop.example/neumes/impl.neumeRows", "unicode/utf8.first", "unicode/utf8.acceptRanges", "unicode.CaseRanges", "internal/bytealg.MaxLen"], apart := false, laid := [("unicode/utf8.acceptRanges", laid_unicode_utf8_acceptRanges), ("loop.example/neumes/impl.neumeRows", laid_loop_example_neumes_impl_neumeRows), ("unicode.CaseRanges", laid_unicode_CaseRanges), ("unicode/utf8.first", laid_unicode_utf8_first)] }
def FnGroupsReadSaid : Prop := fnGroupsReadRow.holds Tryd.pinned (OpenSpec.ofChange fnGroupsReadSpec)

/-- ITS FALSE NEIGHBOUR: 'it returns false'. Refute it at one input. -/
def fnGroupsReadWrong : ChangeSpec := { name := "fnGroupsRead", vars := ["loop.example/neumes/impl.neumeRows"], fn := fun _ => fun
  | [d1, d2, g1] => { results := [.lit (.bool false)], args := [d1, d2], vars := [g1] }
  | _ => none }
def FnGroupsReadWrongFalsely : Prop := fnGroupsReadRow.holds Tryd.pinned (OpenSpec.ofChange fnGroupsReadWrong)

/- THE SECOND FORM. 'bulk': how many values and letters a reading holds, each counted each time it is reached (what is shared counts as often as it is met; a slice's spare places count too). A statement '..UptoSaid' is the law's where the arguments, and the package variables that the reading takes, are together of bulk at most 1048576: NARROWER than '..Said'. Prove '..Said' where nothing that the law and all that it calls make is longer than what came in: it says more and counts as full. Else prove '..UptoSaid'. A law counts once. -/
mutual
def uptoBulk {H : Type} : DataW H → Nat
  | .lit (.string bytes) => bytes.length + 1
  | .lit _ => 1
  | .nil => 1
  | .ptr d => uptoBulk d + 1
  | .slice elems spare => uptoBulkAll elems + uptoBulkAll spare + 1
  | .agg parts => uptoBulkAll parts + 1
  | .iface _ d => uptoBulk d + 1
  | .map entries => uptoBulkEntries entries + 1
  | .held _ => 1
def uptoBulkAll {H : Type} : List (DataW H) → Nat
  | [] => 0
  | d :: r => uptoBulk d + uptoBulkAll r
def uptoBulkEntries {H : Type} : List (Lit × DataW H) → Nat
  | [] => 0
  | x :: r => uptoBulkEntry x + uptoBulkEntries r
def uptoBulkEntry {H : Type} : Lit × DataW H → Nat
  | (.string bytes, d) => bytes.length + uptoBulk d + 1
  | (_, d) => uptoBulk d + 1
 end
def uptoSmall : (H : Type) → List (DataW H) → Bool := fun _ ds => decide (uptoBulkAll ds ≤ 1048576)
def OpenSpec.upto (s : _root_.Go.ChangeSpec) : _root_.Go.OpenSpec := { _root_.Go.OpenSpec.ofChange s with cond := some uptoSmall }

/-- 'laws.FnExactGroupsNames', WHERE WHAT IT READS IS OF BULK AT MOST 1048576: true; the input reads as it did. -/
def fnExactGroupsNamesUptoRow : OpenClaim := { program := "ytldepdaglapdeaadoor", sum := "f43e7ed956a9fae06df6ab1c4b66bb86215b4e153b88d1382c2738200d8ffc47", func := "loop.example/neumes/laws.FnExactGroupsNames", spec := "fnExactGroupsNames", inPlace := ["internal/bytealg.IndexByteString", "internal/bytealg.IndexString", "internal/abi.NoEscape", "internal/bytealg.MakeNoZero"], unfollowed := true, recurses := true, named := ["loop.example/neumes/impl.neumeRows", "unicode/utf8.first", "unicode/utf8.acceptRanges", "unicode.CaseRanges", "internal/bytealg.MaxLen"], apart := false, laid := [("unicode/utf8.acceptRanges", laid_unicode_utf8_acceptRanges), ("loop.example/neumes/impl.neumeRows", laid_loop_example_neumes_impl_neumeRows), ("unicode.CaseRanges", laid_unicode_CaseRanges), ("unicode/utf8.first", laid_unicode_utf8_first)], narrowed := true }
def FnExactGroupsNamesUptoSaid : Prop := fnExactGroupsNamesUptoRow.holds Tryd.pinned (OpenSpec.upto fnExactGroupsNamesSpec)

/-- 'laws.FnExactGroupsRead', WHERE WHAT IT READS IS OF BULK AT MOST 1048576: true; the input reads as it did. -/
def fnExactGroupsReadUptoRow : OpenClaim := { program := "ytldepdaglapdeaadoor", sum := "f43e7ed956a9fae06df6ab1c4b66bb86215b4e153b88d1382c2738200d8ffc47", func := "loop.example/neumes/laws.FnExactGroupsRead", spec := "fnExactGroupsRead", inPlace := ["internal/bytealg.IndexByteString", "internal/bytealg.IndexString", "internal/abi.NoEscape", "internal/bytealg.MakeNoZero"], unfollowed := true, recurses := true, named := ["loop.example/neumes/impl.neumeRows", "unicode/utf8.first", "unicode/utf8.acceptRanges", "unicode.CaseRanges", "internal/bytealg.MaxLen"], apart := false, laid := [("unicode/utf8.acceptRanges", laid_unicode_utf8_acceptRanges), ("loop.example/neumes/impl.neumeRows", laid_loop_example_neumes_impl_neumeRows), ("unicode.CaseRanges", laid_unicode_CaseRanges), ("unicode/utf8.first", laid_unicode_utf8_first)], narrowed := true }
def FnExactGroupsReadUptoSaid : Prop := fnExactGroupsReadUptoRow.holds Tryd.pinned (OpenSpec.upto fnExactGroupsReadSpec)

/-- 'laws.FnGroups', WHERE WHAT IT READS IS OF BULK AT MOST 1048576: true; the input reads as it did. -/
def fnGroupsUptoRow : OpenClaim := { program := "ytldepdaglapdeaadoor", sum := "f43e7ed956a9fae06df6ab1c4b66bb86215b4e153b88d1382c2738200d8ffc47", func := "loop.example/neumes/laws.FnGroups", spec := "fnGroups", inPlace := ["internal/bytealg.IndexByteString", "internal/bytealg.IndexString", "internal/abi.NoEscape", "internal/bytealg.MakeNoZero"], unfollowed := true, recurses := true, named := ["loop.example/neumes/impl.neumeRows", "unicode/utf8.first", "unicode/utf8.acceptRanges", "unicode.CaseRanges", "internal/bytealg.MaxLen"], apart := false, laid := [("unicode/utf8.acceptRanges", laid_unicode_utf8_acceptRanges), ("loop.example/neumes/impl.neumeRows", laid_loop_example_neumes_impl_neumeRows), ("unicode.CaseRanges", laid_unicode_CaseRanges), ("unicode/utf8.first", laid_unicode_utf8_first)], narrowed := true }
def FnGroupsUptoSaid : Prop := fnGroupsUptoRow.holds Tryd.pinned (OpenSpec.upto fnGroupsSpec)

/-- 'laws.FnGroupsCut', WHERE WHAT IT READS IS OF BULK AT MOST 1048576: true; the input reads as it did. -/
def fnGroupsCutUptoRow : OpenClaim := { program := "ytldepdaglapdeaadoor", sum := "f43e7ed956a9fae06df6ab1c4b66bb86215b4e153b88d1382c2738200d8ffc47", func := "loop.example/neumes/laws.FnGroupsCut", spec := "fnGroupsCut", inPlace := ["internal/bytealg.IndexByteString", "internal/bytealg.IndexString", "internal/abi.NoEscape", "internal/bytealg.MakeNoZero"], unfollowed := true, recurses := true, named := ["loop.example/neumes/impl.neumeRows", "unicode/utf8.first", "unicode/utf8.acceptRanges", "unicode.CaseRanges", "internal/bytealg.MaxLen"], apart := false, laid := [("unicode/utf8.acceptRanges", laid_unicode_utf8_acceptRanges), ("loop.example/neumes/impl.neumeRows", laid_loop_example_neumes_impl_neumeRows), ("unicode.CaseRanges", laid_unicode_CaseRanges), ("unicode/utf8.first", laid_unicode_utf8_first)], narrowed := true }
def FnGroupsCutUptoSaid : Prop := fnGroupsCutUptoRow.holds Tryd.pinned (OpenSpec.upto fnGroupsCutSpec)

/-- 'laws.FnNeumeContour', WHERE WHAT IT READS IS OF BULK AT MOST 1048576: true; the input reads as it did. -/
def fnNeumeContourUptoRow : OpenClaim := { program := "ytldepdaglapdeaadoor", sum := "f43e7ed956a9fae06df6ab1c4b66bb86215b4e153b88d1382c2738200d8ffc47", func := "loop.example/neumes/laws.FnNeumeContour", spec := "fnNeumeContour", inPlace := ["internal/bytealg.IndexByteString", "internal/bytealg.IndexString", "internal/abi.NoEscape", "internal/bytealg.MakeNoZero"], unfollowed := true, recurses := true, named := ["loop.example/neumes/impl.neumeRows", "unicode/utf8.first", "unicode/utf8.acceptRanges", "unicode.CaseRanges", "internal/bytealg.MaxLen"], apart := false, laid := [("unicode/utf8.acceptRanges", laid_unicode_utf8_acceptRanges), ("loop.example/neumes/impl.neumeRows", laid_loop_example_neumes_impl_neumeRows), ("unicode.CaseRanges", laid_unicode_CaseRanges), ("unicode/utf8.first", laid_unicode_utf8_first)], narrowed := true }
def FnNeumeContourUptoSaid : Prop := fnNeumeContourUptoRow.holds Tryd.pinned (OpenSpec.upto fnNeumeContourSpec)

/-- 'laws.FnGroupsRead', WHERE WHAT IT READS IS OF BULK AT MOST 1048576: true; the input reads as it did. -/
def fnGroupsReadUptoRow : OpenClaim := { program := "ytldepdaglapdeaadoor", sum := "f43e7ed956a9fae06df6ab1c4b66bb86215b4e153b88d1382c2738200d8ffc47", func := "loop.example/neumes/laws.FnGroupsRead", spec := "fnGroupsRead", inPlace := ["internal/bytealg.IndexByteString", "internal/bytealg.IndexString", "internal/abi.NoEscape", "internal/bytealg.MakeNoZero"], unfollowed := true, recurses := true, named := ["loop.example/neumes/impl.neumeRows", "unicode/utf8.first", "unicode/utf8.acceptRanges", "unicode.CaseRanges", "internal/bytealg.MaxLen"], apart := false, laid := [("unicode/utf8.acceptRanges", laid_unicode_utf8_acceptRanges), ("loop.example/neumes/impl.neumeRows", laid_loop_example_neumes_impl_neumeRows), ("unicode.CaseRanges", laid_unicode_CaseRanges), ("unicode/utf8.first", laid_unicode_utf8_first)], narrowed := true }
def FnGroupsReadUptoSaid : Prop := fnGroupsReadUptoRow.holds Tryd.pinned (OpenSpec.upto fnGroupsReadSpec)

end Rows
end Go.Proofs.YtldepdaglapdeaaDoor
