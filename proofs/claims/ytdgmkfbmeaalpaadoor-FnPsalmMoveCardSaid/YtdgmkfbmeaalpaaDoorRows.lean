/-
  NARROWER THAN 'FOR EVERY INPUT', by the rows' own cells (each row's printed sentence says how): FnPsalmFits: laid · FnExactPsalmTenors: laid · FnPsalmAccents: laid · FnExactPsalmAccents: laid · FnPsalmMore: laid · FnPsalm: laid · FnExactPsalmSing: laid · FnPsalmBest: laid · FnPsalmRead: laid · FnExactPsalmRead: laid · FnExactPsalmBest: laid · FnPsalmMove: laid.
  DERIVED. THE GIVEN ROWS OF THIS SEAT. 12 by the template 'for every input the law returns true; each argument reads behind the call as it read before'; 0 by the template 'total and deterministic' (their statements: YtdgmkfbmeaalpaaDoorTotals.lean).
  GIVEN WITH THE SEED: the statements are not yours to turn. If you find one false, say at which input.
  Laid BY PROGRAM, IN A SANDBOX (cutbox-rows.mjs): the forced cells as the released guide's own fill.sh prints them over the translation 3fbf19faf8306961… (all of the seat's roots in one cut). By AI agents, Wed Nov 11 2026. No macro, syntax, notation, axiom, sorry.
-/
import Derived.Test.YtdgmkfbmeaalpaaDoorChecked
import GoSem.PinnedTables
import GoSem.Claim
import GoSem.ClaimJoined
import GoSem.ClaimMapViews
import Derived.JoinedTies
import Derived.KernelRfl
namespace Go.Proofs.YtdgmkfbmeaalpaaDoor
/- THE CELL 'sum', in the pinned program and in every row, IS THE sha256 OF THE DUMP (.gsa) THAT YtdgmkfbmeaalpaaDoorProg.lean LOADS. Nothing in Lean hashes anything: it is a label: what it is worth is what the hold of that sum in a sandbox is worth. -/
noncomputable def Tryd.pinned : Pinned := { name := "ytdgmkfbmeaalpaadoor", sum := "3fbf19faf8306961229f467e1b1df55dbfaee18a84848f0df2046032eef86d13", checked := Tryd.checked }
namespace Rows
def none {H : Type} : Left H := { results := [], args := [] }

/- WHAT THE LISTED PACKAGE-LEVEL VARIABLES READ AS WHEN THE CALL BEGINS. Each datum BY PROGRAM (the guide's laid-datum.mjs) off the statement by which the dump's own 'gosem.cut.vars' lays the variable. In a bare row this is a premise. The card (YtdgmkfbmeaalpaaDoorCards.lean) ties it to the program's text. -/
def laid_unicode_utf8_acceptRanges {H : Type} : DataW H := .agg [.agg [.lit (.int .u8 128), .lit (.int .u8 191)], .agg [.lit (.int .u8 160), .lit (.int .u8 191)], .agg [.lit (.int .u8 128), .lit (.int .u8 159)], .agg [.lit (.int .u8 144), .lit (.int .u8 191)], .agg [.lit (.int .u8 128), .lit (.int .u8 143)], .agg [.lit (.int .u8 0), .lit (.int .u8 0)], .agg [.lit (.int .u8 0), .lit (.int .u8 0)], .agg [.lit (.int .u8 0), .lit (.int .u8 0)], .agg [.lit (.int .u8 0), .lit (.int .u8 0)], .agg [.lit (.int .u8 0), .lit (.int .u8 0)], .agg [.lit (.int .u8 0), .lit (.int .u8 0)], .agg [.lit (.int .u8 0), .lit (.int .u8 0)], .agg [.lit (.int .u8 0), .lit (.int .u8 0)], .agg [.lit (.int .u8 0), .lit (.int .u8 0)], .agg [.lit (.int .u8 0), .lit (.int .u8 0)], .agg [.lit (.int .u8 0), .lit (.int .u8 0)]]
/-- One of Go's own tables, pinned by name: the form's constant. -/
def laid_unicode_utf8_first : DataW Unit := Go.Pinned.utf8First
def laid_loop_example_neumes_impl_letterHeights {H : Type} : DataW H := .agg [.lit (.int .i64 0), .lit (.int .i64 2), .lit (.int .i64 4), .lit (.int .i64 5), .lit (.int .i64 7), .lit (.int .i64 9), .lit (.int .i64 10)]

/-- 'laws.FnPsalmFits': WHATEVER THE INPUT: true; the input reads as it did. -/
def fnPsalmFitsSpec : ChangeSpec := { name := "fnPsalmFits", fn := fun _ => fun
  | [d] => { results := [.lit (.bool true)], args := [d] }
  | _ => none }
def fnPsalmFitsRow : OpenClaim := { program := "ytdgmkfbmeaalpaadoor", sum := "3fbf19faf8306961229f467e1b1df55dbfaee18a84848f0df2046032eef86d13", func := "loop.example/neumes/laws.FnPsalmFits", spec := "fnPsalmFits", inPlace := ["internal/bytealg.IndexByteString", "internal/bytealg.IndexString"], unfollowed := true, recurses := true, named := ["internal/bytealg.MaxLen", "unicode/utf8.first", "unicode/utf8.acceptRanges"], apart := false, laid := [("unicode/utf8.acceptRanges", laid_unicode_utf8_acceptRanges), ("unicode/utf8.first", laid_unicode_utf8_first)] }
def FnPsalmFitsSaid : Prop := fnPsalmFitsRow.holds Tryd.pinned (OpenSpec.ofChange fnPsalmFitsSpec)

/-- ITS FALSE NEIGHBOUR: 'it returns false'. Refute it at one input. -/
def fnPsalmFitsWrong : ChangeSpec := { name := "fnPsalmFits", fn := fun _ => fun
  | [d] => { results := [.lit (.bool false)], args := [d] }
  | _ => none }
def FnPsalmFitsWrongFalsely : Prop := fnPsalmFitsRow.holds Tryd.pinned (OpenSpec.ofChange fnPsalmFitsWrong)

/-- 'laws.FnExactPsalmTenors': WHATEVER THE INPUT: true; the input reads as it did. -/
def fnExactPsalmTenorsSpec : ChangeSpec := { name := "fnExactPsalmTenors", fn := fun _ => fun
  | [d1, d2] => { results := [.lit (.bool true)], args := [d1, d2] }
  | _ => none }
def fnExactPsalmTenorsRow : OpenClaim := { program := "ytdgmkfbmeaalpaadoor", sum := "3fbf19faf8306961229f467e1b1df55dbfaee18a84848f0df2046032eef86d13", func := "loop.example/neumes/laws.FnExactPsalmTenors", spec := "fnExactPsalmTenors", inPlace := ["internal/bytealg.IndexByteString", "internal/bytealg.IndexString"], unfollowed := true, recurses := true, named := ["internal/bytealg.MaxLen", "unicode/utf8.first", "unicode/utf8.acceptRanges"], apart := false, laid := [("unicode/utf8.acceptRanges", laid_unicode_utf8_acceptRanges), ("unicode/utf8.first", laid_unicode_utf8_first)] }
def FnExactPsalmTenorsSaid : Prop := fnExactPsalmTenorsRow.holds Tryd.pinned (OpenSpec.ofChange fnExactPsalmTenorsSpec)

/-- ITS FALSE NEIGHBOUR: 'it returns false'. Refute it at one input. -/
def fnExactPsalmTenorsWrong : ChangeSpec := { name := "fnExactPsalmTenors", fn := fun _ => fun
  | [d1, d2] => { results := [.lit (.bool false)], args := [d1, d2] }
  | _ => none }
def FnExactPsalmTenorsWrongFalsely : Prop := fnExactPsalmTenorsRow.holds Tryd.pinned (OpenSpec.ofChange fnExactPsalmTenorsWrong)

/-- 'laws.FnPsalmAccents': WHATEVER THE INPUT: true; the input reads as it did. -/
def fnPsalmAccentsSpec : ChangeSpec := { name := "fnPsalmAccents", fn := fun _ => fun
  | [d] => { results := [.lit (.bool true)], args := [d] }
  | _ => none }
def fnPsalmAccentsRow : OpenClaim := { program := "ytdgmkfbmeaalpaadoor", sum := "3fbf19faf8306961229f467e1b1df55dbfaee18a84848f0df2046032eef86d13", func := "loop.example/neumes/laws.FnPsalmAccents", spec := "fnPsalmAccents", inPlace := ["internal/bytealg.IndexByteString", "internal/bytealg.IndexString"], unfollowed := true, recurses := true, named := ["internal/bytealg.MaxLen", "unicode/utf8.first", "unicode/utf8.acceptRanges"], apart := false, laid := [("unicode/utf8.acceptRanges", laid_unicode_utf8_acceptRanges), ("unicode/utf8.first", laid_unicode_utf8_first)] }
def FnPsalmAccentsSaid : Prop := fnPsalmAccentsRow.holds Tryd.pinned (OpenSpec.ofChange fnPsalmAccentsSpec)

/-- ITS FALSE NEIGHBOUR: 'it returns false'. Refute it at one input. -/
def fnPsalmAccentsWrong : ChangeSpec := { name := "fnPsalmAccents", fn := fun _ => fun
  | [d] => { results := [.lit (.bool false)], args := [d] }
  | _ => none }
def FnPsalmAccentsWrongFalsely : Prop := fnPsalmAccentsRow.holds Tryd.pinned (OpenSpec.ofChange fnPsalmAccentsWrong)

/-- 'laws.FnExactPsalmAccents': WHATEVER THE INPUT: true; the input reads as it did. -/
def fnExactPsalmAccentsSpec : ChangeSpec := { name := "fnExactPsalmAccents", fn := fun _ => fun
  | [d1, d2] => { results := [.lit (.bool true)], args := [d1, d2] }
  | _ => none }
def fnExactPsalmAccentsRow : OpenClaim := { program := "ytdgmkfbmeaalpaadoor", sum := "3fbf19faf8306961229f467e1b1df55dbfaee18a84848f0df2046032eef86d13", func := "loop.example/neumes/laws.FnExactPsalmAccents", spec := "fnExactPsalmAccents", inPlace := ["internal/bytealg.IndexByteString", "internal/bytealg.IndexString"], unfollowed := true, recurses := true, named := ["internal/bytealg.MaxLen", "unicode/utf8.first", "unicode/utf8.acceptRanges"], apart := false, laid := [("unicode/utf8.acceptRanges", laid_unicode_utf8_acceptRanges), ("unicode/utf8.first", laid_unicode_utf8_first)] }
def FnExactPsalmAccentsSaid : Prop := fnExactPsalmAccentsRow.holds Tryd.pinned (OpenSpec.ofChange fnExactPsalmAccentsSpec)

/-- ITS FALSE NEIGHBOUR: 'it returns false'. Refute it at one input. -/
def fnExactPsalmAccentsWrong : ChangeSpec := { name := "fnExactPsalmAccents", fn := fun _ => fun
  | [d1, d2] => { results := [.lit (.bool false)], args := [d1, d2] }
  | _ => none }
def FnExactPsalmAccentsWrongFalsely : Prop := fnExactPsalmAccentsRow.holds Tryd.pinned (OpenSpec.ofChange fnExactPsalmAccentsWrong)

/-- 'laws.FnPsalmMore': WHATEVER THE INPUT: true; the input reads as it did. -/
def fnPsalmMoreSpec : ChangeSpec := { name := "fnPsalmMore", fn := fun _ => fun
  | [d] => { results := [.lit (.bool true)], args := [d] }
  | _ => none }
def fnPsalmMoreRow : OpenClaim := { program := "ytdgmkfbmeaalpaadoor", sum := "3fbf19faf8306961229f467e1b1df55dbfaee18a84848f0df2046032eef86d13", func := "loop.example/neumes/laws.FnPsalmMore", spec := "fnPsalmMore", inPlace := ["internal/bytealg.IndexByteString", "internal/bytealg.IndexString"], unfollowed := true, recurses := true, named := ["internal/bytealg.MaxLen", "unicode/utf8.first", "unicode/utf8.acceptRanges"], apart := false, laid := [("unicode/utf8.acceptRanges", laid_unicode_utf8_acceptRanges), ("unicode/utf8.first", laid_unicode_utf8_first)] }
def FnPsalmMoreSaid : Prop := fnPsalmMoreRow.holds Tryd.pinned (OpenSpec.ofChange fnPsalmMoreSpec)

/-- ITS FALSE NEIGHBOUR: 'it returns false'. Refute it at one input. -/
def fnPsalmMoreWrong : ChangeSpec := { name := "fnPsalmMore", fn := fun _ => fun
  | [d] => { results := [.lit (.bool false)], args := [d] }
  | _ => none }
def FnPsalmMoreWrongFalsely : Prop := fnPsalmMoreRow.holds Tryd.pinned (OpenSpec.ofChange fnPsalmMoreWrong)

/-- 'laws.FnPsalm': WHATEVER THE INPUT: true; the input reads as it did. -/
def fnPsalmSpec : ChangeSpec := { name := "fnPsalm", fn := fun _ => fun
  | [d] => { results := [.lit (.bool true)], args := [d] }
  | _ => none }
def fnPsalmRow : OpenClaim := { program := "ytdgmkfbmeaalpaadoor", sum := "3fbf19faf8306961229f467e1b1df55dbfaee18a84848f0df2046032eef86d13", func := "loop.example/neumes/laws.FnPsalm", spec := "fnPsalm", inPlace := ["internal/bytealg.IndexByteString", "internal/bytealg.IndexString"], unfollowed := true, recurses := true, named := ["internal/bytealg.MaxLen", "unicode/utf8.first", "unicode/utf8.acceptRanges"], apart := false, laid := [("unicode/utf8.acceptRanges", laid_unicode_utf8_acceptRanges), ("unicode/utf8.first", laid_unicode_utf8_first)] }
def FnPsalmSaid : Prop := fnPsalmRow.holds Tryd.pinned (OpenSpec.ofChange fnPsalmSpec)

/-- ITS FALSE NEIGHBOUR: 'it returns false'. Refute it at one input. -/
def fnPsalmWrong : ChangeSpec := { name := "fnPsalm", fn := fun _ => fun
  | [d] => { results := [.lit (.bool false)], args := [d] }
  | _ => none }
def FnPsalmWrongFalsely : Prop := fnPsalmRow.holds Tryd.pinned (OpenSpec.ofChange fnPsalmWrong)

/-- 'laws.FnExactPsalmSing': WHATEVER THE INPUT: true; the input reads as it did. -/
def fnExactPsalmSingSpec : ChangeSpec := { name := "fnExactPsalmSing", fn := fun _ => fun
  | [d1, d2] => { results := [.lit (.bool true)], args := [d1, d2] }
  | _ => none }
def fnExactPsalmSingRow : OpenClaim := { program := "ytdgmkfbmeaalpaadoor", sum := "3fbf19faf8306961229f467e1b1df55dbfaee18a84848f0df2046032eef86d13", func := "loop.example/neumes/laws.FnExactPsalmSing", spec := "fnExactPsalmSing", inPlace := ["internal/bytealg.IndexByteString", "internal/bytealg.IndexString"], unfollowed := true, recurses := true, named := ["internal/bytealg.MaxLen", "unicode/utf8.first", "unicode/utf8.acceptRanges"], apart := false, laid := [("unicode/utf8.acceptRanges", laid_unicode_utf8_acceptRanges), ("unicode/utf8.first", laid_unicode_utf8_first)] }
def FnExactPsalmSingSaid : Prop := fnExactPsalmSingRow.holds Tryd.pinned (OpenSpec.ofChange fnExactPsalmSingSpec)

/-- ITS FALSE NEIGHBOUR: 'it returns false'. Refute it at one input. -/
def fnExactPsalmSingWrong : ChangeSpec := { name := "fnExactPsalmSing", fn := fun _ => fun
  | [d1, d2] => { results := [.lit (.bool false)], args := [d1, d2] }
  | _ => none }
def FnExactPsalmSingWrongFalsely : Prop := fnExactPsalmSingRow.holds Tryd.pinned (OpenSpec.ofChange fnExactPsalmSingWrong)

/-- 'laws.FnPsalmBest': WHATEVER THE INPUT: true; the input reads as it did. -/
def fnPsalmBestSpec : ChangeSpec := { name := "fnPsalmBest", fn := fun _ => fun
  | [d] => { results := [.lit (.bool true)], args := [d] }
  | _ => none }
def fnPsalmBestRow : OpenClaim := { program := "ytdgmkfbmeaalpaadoor", sum := "3fbf19faf8306961229f467e1b1df55dbfaee18a84848f0df2046032eef86d13", func := "loop.example/neumes/laws.FnPsalmBest", spec := "fnPsalmBest", inPlace := ["internal/bytealg.IndexByteString", "internal/bytealg.IndexString"], unfollowed := true, recurses := true, named := ["internal/bytealg.MaxLen", "unicode/utf8.first", "unicode/utf8.acceptRanges"], apart := false, laid := [("unicode/utf8.acceptRanges", laid_unicode_utf8_acceptRanges), ("unicode/utf8.first", laid_unicode_utf8_first)] }
def FnPsalmBestSaid : Prop := fnPsalmBestRow.holds Tryd.pinned (OpenSpec.ofChange fnPsalmBestSpec)

/-- ITS FALSE NEIGHBOUR: 'it returns false'. Refute it at one input. -/
def fnPsalmBestWrong : ChangeSpec := { name := "fnPsalmBest", fn := fun _ => fun
  | [d] => { results := [.lit (.bool false)], args := [d] }
  | _ => none }
def FnPsalmBestWrongFalsely : Prop := fnPsalmBestRow.holds Tryd.pinned (OpenSpec.ofChange fnPsalmBestWrong)

/-- 'laws.FnPsalmRead': WHATEVER THE INPUT: true; the input reads as it did. -/
def fnPsalmReadSpec : ChangeSpec := { name := "fnPsalmRead", fn := fun _ => fun
  | [d1, d2] => { results := [.lit (.bool true)], args := [d1, d2] }
  | _ => none }
def fnPsalmReadRow : OpenClaim := { program := "ytdgmkfbmeaalpaadoor", sum := "3fbf19faf8306961229f467e1b1df55dbfaee18a84848f0df2046032eef86d13", func := "loop.example/neumes/laws.FnPsalmRead", spec := "fnPsalmRead", inPlace := ["internal/bytealg.IndexByteString", "internal/bytealg.IndexString"], unfollowed := true, recurses := true, named := ["internal/bytealg.MaxLen", "unicode/utf8.first", "unicode/utf8.acceptRanges"], apart := false, laid := [("unicode/utf8.acceptRanges", laid_unicode_utf8_acceptRanges), ("unicode/utf8.first", laid_unicode_utf8_first)] }
def FnPsalmReadSaid : Prop := fnPsalmReadRow.holds Tryd.pinned (OpenSpec.ofChange fnPsalmReadSpec)

/-- ITS FALSE NEIGHBOUR: 'it returns false'. Refute it at one input. -/
def fnPsalmReadWrong : ChangeSpec := { name := "fnPsalmRead", fn := fun _ => fun
  | [d1, d2] => { results := [.lit (.bool false)], args := [d1, d2] }
  | _ => none }
def FnPsalmReadWrongFalsely : Prop := fnPsalmReadRow.holds Tryd.pinned (OpenSpec.ofChange fnPsalmReadWrong)

/-- 'laws.FnExactPsalmRead': WHATEVER THE INPUT: true; the input reads as it did. -/
def fnExactPsalmReadSpec : ChangeSpec := { name := "fnExactPsalmRead", fn := fun _ => fun
  | [d1, d2, d3] => { results := [.lit (.bool true)], args := [d1, d2, d3] }
  | _ => none }
def fnExactPsalmReadRow : OpenClaim := { program := "ytdgmkfbmeaalpaadoor", sum := "3fbf19faf8306961229f467e1b1df55dbfaee18a84848f0df2046032eef86d13", func := "loop.example/neumes/laws.FnExactPsalmRead", spec := "fnExactPsalmRead", inPlace := ["internal/bytealg.IndexByteString", "internal/bytealg.IndexString"], unfollowed := true, recurses := true, named := ["internal/bytealg.MaxLen", "unicode/utf8.first", "unicode/utf8.acceptRanges"], apart := false, laid := [("unicode/utf8.acceptRanges", laid_unicode_utf8_acceptRanges), ("unicode/utf8.first", laid_unicode_utf8_first)] }
def FnExactPsalmReadSaid : Prop := fnExactPsalmReadRow.holds Tryd.pinned (OpenSpec.ofChange fnExactPsalmReadSpec)

/-- ITS FALSE NEIGHBOUR: 'it returns false'. Refute it at one input. -/
def fnExactPsalmReadWrong : ChangeSpec := { name := "fnExactPsalmRead", fn := fun _ => fun
  | [d1, d2, d3] => { results := [.lit (.bool false)], args := [d1, d2, d3] }
  | _ => none }
def FnExactPsalmReadWrongFalsely : Prop := fnExactPsalmReadRow.holds Tryd.pinned (OpenSpec.ofChange fnExactPsalmReadWrong)

/-- 'laws.FnExactPsalmBest': WHATEVER THE INPUT: true; the input reads as it did. -/
def fnExactPsalmBestSpec : ChangeSpec := { name := "fnExactPsalmBest", fn := fun _ => fun
  | [d1, d2] => { results := [.lit (.bool true)], args := [d1, d2] }
  | _ => none }
def fnExactPsalmBestRow : OpenClaim := { program := "ytdgmkfbmeaalpaadoor", sum := "3fbf19faf8306961229f467e1b1df55dbfaee18a84848f0df2046032eef86d13", func := "loop.example/neumes/laws.FnExactPsalmBest", spec := "fnExactPsalmBest", inPlace := ["internal/bytealg.IndexByteString", "internal/bytealg.IndexString"], unfollowed := true, recurses := true, named := ["internal/bytealg.MaxLen", "unicode/utf8.first", "unicode/utf8.acceptRanges"], apart := false, laid := [("unicode/utf8.acceptRanges", laid_unicode_utf8_acceptRanges), ("unicode/utf8.first", laid_unicode_utf8_first)] }
def FnExactPsalmBestSaid : Prop := fnExactPsalmBestRow.holds Tryd.pinned (OpenSpec.ofChange fnExactPsalmBestSpec)

/-- ITS FALSE NEIGHBOUR: 'it returns false'. Refute it at one input. -/
def fnExactPsalmBestWrong : ChangeSpec := { name := "fnExactPsalmBest", fn := fun _ => fun
  | [d1, d2] => { results := [.lit (.bool false)], args := [d1, d2] }
  | _ => none }
def FnExactPsalmBestWrongFalsely : Prop := fnExactPsalmBestRow.holds Tryd.pinned (OpenSpec.ofChange fnExactPsalmBestWrong)

/-- 'laws.FnPsalmMove': WHATEVER THE INPUT: true; the input reads as it did. -/
def fnPsalmMoveSpec : ChangeSpec := { name := "fnPsalmMove", vars := ["loop.example/neumes/impl.letterHeights"], fn := fun _ => fun
  | [d1, d2, g1] => { results := [.lit (.bool true)], args := [d1, d2], vars := [g1] }
  | _ => none }
def fnPsalmMoveRow : OpenClaim := { program := "ytdgmkfbmeaalpaadoor", sum := "3fbf19faf8306961229f467e1b1df55dbfaee18a84848f0df2046032eef86d13", func := "loop.example/neumes/laws.FnPsalmMove", spec := "fnPsalmMove", inPlace := ["internal/bytealg.IndexByteString", "internal/bytealg.IndexString"], unfollowed := true, recurses := true, named := ["loop.example/neumes/impl.letterHeights", "internal/bytealg.MaxLen", "unicode/utf8.first", "unicode/utf8.acceptRanges"], apart := false, laid := [("unicode/utf8.acceptRanges", laid_unicode_utf8_acceptRanges), ("loop.example/neumes/impl.letterHeights", laid_loop_example_neumes_impl_letterHeights), ("unicode/utf8.first", laid_unicode_utf8_first)] }
def FnPsalmMoveSaid : Prop := fnPsalmMoveRow.holds Tryd.pinned (OpenSpec.ofChange fnPsalmMoveSpec)

/-- ITS FALSE NEIGHBOUR: 'it returns false'. Refute it at one input. -/
def fnPsalmMoveWrong : ChangeSpec := { name := "fnPsalmMove", vars := ["loop.example/neumes/impl.letterHeights"], fn := fun _ => fun
  | [d1, d2, g1] => { results := [.lit (.bool false)], args := [d1, d2], vars := [g1] }
  | _ => none }
def FnPsalmMoveWrongFalsely : Prop := fnPsalmMoveRow.holds Tryd.pinned (OpenSpec.ofChange fnPsalmMoveWrong)

/- THE SECOND FORM. 'bulk': how many values and letters a reading holds, each counted each time it is reached (what is shared counts as often as it is met; a slice's spare places count too). A statement '..UptoSaid' is the law's where the arguments, and the package variables that the reading takes, are together of bulk at most 1048576: NARROWER than '..Said'. Prove '..Said' where nothing that the law and all that it calls make is longer than what came in: it says more and counts as full. Else prove '..UptoSaid'. A law counts once. -/
mutual
def uptoBulk {H : Type} : DataW H → Nat
  | .lit (.string bytes) => bytes.length + 1
  | .lit _ => 1
  | .nil => 1
  | .ptr d => uptoBulk d + 1
  | .slice elems spare => uptoBulkAll elems + uptoBulkAll spare + 1
  | .agg parts => uptoBulkAll parts + 1
  | .iface _ d => uptoBulk d + 1
  | .map entries => uptoBulkEntries entries + 1
  | .held _ => 1
def uptoBulkAll {H : Type} : List (DataW H) → Nat
  | [] => 0
  | d :: r => uptoBulk d + uptoBulkAll r
def uptoBulkEntries {H : Type} : List (Lit × DataW H) → Nat
  | [] => 0
  | x :: r => uptoBulkEntry x + uptoBulkEntries r
def uptoBulkEntry {H : Type} : Lit × DataW H → Nat
  | (.string bytes, d) => bytes.length + uptoBulk d + 1
  | (_, d) => uptoBulk d + 1
 end
def uptoSmall : (H : Type) → List (DataW H) → Bool := fun _ ds => decide (uptoBulkAll ds ≤ 1048576)
def OpenSpec.upto (s : _root_.Go.ChangeSpec) : _root_.Go.OpenSpec := { _root_.Go.OpenSpec.ofChange s with cond := some uptoSmall }

/-- 'laws.FnPsalmFits', WHERE WHAT IT READS IS OF BULK AT MOST 1048576: true; the input reads as it did. -/
def fnPsalmFitsUptoRow : OpenClaim := { program := "ytdgmkfbmeaalpaadoor", sum := "3fbf19faf8306961229f467e1b1df55dbfaee18a84848f0df2046032eef86d13", func := "loop.example/neumes/laws.FnPsalmFits", spec := "fnPsalmFits", inPlace := ["internal/bytealg.IndexByteString", "internal/bytealg.IndexString"], unfollowed := true, recurses := true, named := ["internal/bytealg.MaxLen", "unicode/utf8.first", "unicode/utf8.acceptRanges"], apart := false, laid := [("unicode/utf8.acceptRanges", laid_unicode_utf8_acceptRanges), ("unicode/utf8.first", laid_unicode_utf8_first)], narrowed := true }
def FnPsalmFitsUptoSaid : Prop := fnPsalmFitsUptoRow.holds Tryd.pinned (OpenSpec.upto fnPsalmFitsSpec)

/-- 'laws.FnExactPsalmTenors', WHERE WHAT IT READS IS OF BULK AT MOST 1048576: true; the input reads as it did. -/
def fnExactPsalmTenorsUptoRow : OpenClaim := { program := "ytdgmkfbmeaalpaadoor", sum := "3fbf19faf8306961229f467e1b1df55dbfaee18a84848f0df2046032eef86d13", func := "loop.example/neumes/laws.FnExactPsalmTenors", spec := "fnExactPsalmTenors", inPlace := ["internal/bytealg.IndexByteString", "internal/bytealg.IndexString"], unfollowed := true, recurses := true, named := ["internal/bytealg.MaxLen", "unicode/utf8.first", "unicode/utf8.acceptRanges"], apart := false, laid := [("unicode/utf8.acceptRanges", laid_unicode_utf8_acceptRanges), ("unicode/utf8.first", laid_unicode_utf8_first)], narrowed := true }
def FnExactPsalmTenorsUptoSaid : Prop := fnExactPsalmTenorsUptoRow.holds Tryd.pinned (OpenSpec.upto fnExactPsalmTenorsSpec)

/-- 'laws.FnPsalmAccents', WHERE WHAT IT READS IS OF BULK AT MOST 1048576: true; the input reads as it did. -/
def fnPsalmAccentsUptoRow : OpenClaim := { program := "ytdgmkfbmeaalpaadoor", sum := "3fbf19faf8306961229f467e1b1df55dbfaee18a84848f0df2046032eef86d13", func := "loop.example/neumes/laws.FnPsalmAccents", spec := "fnPsalmAccents", inPlace := ["internal/bytealg.IndexByteString", "internal/bytealg.IndexString"], unfollowed := true, recurses := true, named := ["internal/bytealg.MaxLen", "unicode/utf8.first", "unicode/utf8.acceptRanges"], apart := false, laid := [("unicode/utf8.acceptRanges", laid_unicode_utf8_acceptRanges), ("unicode/utf8.first", laid_unicode_utf8_first)], narrowed := true }
def FnPsalmAccentsUptoSaid : Prop := fnPsalmAccentsUptoRow.holds Tryd.pinned (OpenSpec.upto fnPsalmAccentsSpec)

/-- 'laws.FnExactPsalmAccents', WHERE WHAT IT READS IS OF BULK AT MOST 1048576: true; the input reads as it did. -/
def fnExactPsalmAccentsUptoRow : OpenClaim := { program := "ytdgmkfbmeaalpaadoor", sum := "3fbf19faf8306961229f467e1b1df55dbfaee18a84848f0df2046032eef86d13", func := "loop.example/neumes/laws.FnExactPsalmAccents", spec := "fnExactPsalmAccents", inPlace := ["internal/bytealg.IndexByteString", "internal/bytealg.IndexString"], unfollowed := true, recurses := true, named := ["internal/bytealg.MaxLen", "unicode/utf8.first", "unicode/utf8.acceptRanges"], apart := false, laid := [("unicode/utf8.acceptRanges", laid_unicode_utf8_acceptRanges), ("unicode/utf8.first", laid_unicode_utf8_first)], narrowed := true }
def FnExactPsalmAccentsUptoSaid : Prop := fnExactPsalmAccentsUptoRow.holds Tryd.pinned (OpenSpec.upto fnExactPsalmAccentsSpec)

/-- 'laws.FnPsalmMore', WHERE WHAT IT READS IS OF BULK AT MOST 1048576: true; the input reads as it did. -/
def fnPsalmMoreUptoRow : OpenClaim := { program := "ytdgmkfbmeaalpaadoor", sum := "3fbf19faf8306961229f467e1b1df55dbfaee18a84848f0df2046032eef86d13", func := "loop.example/neumes/laws.FnPsalmMore", spec := "fnPsalmMore", inPlace := ["internal/bytealg.IndexByteString", "internal/bytealg.IndexString"], unfollowed := true, recurses := true, named := ["internal/bytealg.MaxLen", "unicode/utf8.first", "unicode/utf8.acceptRanges"], apart := false, laid := [("unicode/utf8.acceptRanges", laid_unicode_utf8_acceptRanges), ("unicode/utf8.first", laid_unicode_utf8_first)], narrowed := true }
def FnPsalmMoreUptoSaid : Prop := fnPsalmMoreUptoRow.holds Tryd.pinned (OpenSpec.upto fnPsalmMoreSpec)

/-- 'laws.FnPsalm', WHERE WHAT IT READS IS OF BULK AT MOST 1048576: true; the input reads as it did. -/
def fnPsalmUptoRow : OpenClaim := { program := "ytdgmkfbmeaalpaadoor", sum := "3fbf19faf8306961229f467e1b1df55dbfaee18a84848f0df2046032eef86d13", func := "loop.example/neumes/laws.FnPsalm", spec := "fnPsalm", inPlace := ["internal/bytealg.IndexByteString", "internal/bytealg.IndexString"], unfollowed := true, recurses := true, named := ["internal/bytealg.MaxLen", "unicode/utf8.first", "unicode/utf8.acceptRanges"], apart := false, laid := [("unicode/utf8.acceptRanges", laid_unicode_utf8_acceptRanges), ("unicode/utf8.first", laid_unicode_utf8_first)], narrowed := true }
def FnPsalmUptoSaid : Prop := fnPsalmUptoRow.holds Tryd.pinned (OpenSpec.upto fnPsalmSpec)

/-- 'laws.FnExactPsalmSing', WHERE WHAT IT READS IS OF BULK AT MOST 1048576: true; the input reads as it did. -/
def fnExactPsalmSingUptoRow : OpenClaim := { program := "ytdgmkfbmeaalpaadoor", sum := "3fbf19faf8306961229f467e1b1df55dbfaee18a84848f0df2046032eef86d13", func := "loop.example/neumes/laws.FnExactPsalmSing", spec := "fnExactPsalmSing", inPlace := ["internal/bytealg.IndexByteString", "internal/bytealg.IndexString"], unfollowed := true, recurses := true, named := ["internal/bytealg.MaxLen", "unicode/utf8.first", "unicode/utf8.acceptRanges"], apart := false, laid := [("unicode/utf8.acceptRanges", laid_unicode_utf8_acceptRanges), ("unicode/utf8.first", laid_unicode_utf8_first)], narrowed := true }
def FnExactPsalmSingUptoSaid : Prop := fnExactPsalmSingUptoRow.holds Tryd.pinned (OpenSpec.upto fnExactPsalmSingSpec)

/-- 'laws.FnPsalmBest', WHERE WHAT IT READS IS OF BULK AT MOST 1048576: true; the input reads as it did. -/
def fnPsalmBestUptoRow : OpenClaim := { program := "ytdgmkfbmeaalpaadoor", sum := "3fbf19faf8306961229f467e1b1df55dbfaee18a84848f0df2046032eef86d13", func := "loop.example/neumes/laws.FnPsalmBest", spec := "fnPsalmBest", inPlace := ["internal/bytealg.IndexByteString", "internal/bytealg.IndexString"], unfollowed := true, recurses := true, named := ["internal/bytealg.MaxLen", "unicode/utf8.first", "unicode/utf8.acceptRanges"], apart := false, laid := [("unicode/utf8.acceptRanges", laid_unicode_utf8_acceptRanges), ("unicode/utf8.first", laid_unicode_utf8_first)], narrowed := true }
def FnPsalmBestUptoSaid : Prop := fnPsalmBestUptoRow.holds Tryd.pinned (OpenSpec.upto fnPsalmBestSpec)

/-- 'laws.FnPsalmRead', WHERE WHAT IT READS IS OF BULK AT MOST 1048576: true; the input reads as it did. -/
def fnPsalmReadUptoRow : OpenClaim := { program := "ytdgmkfbmeaalpaadoor", sum := "3fbf19faf8306961229f467e1b1df55dbfaee18a84848f0df2046032eef86d13", func := "loop.example/neumes/laws.FnPsalmRead", spec := "fnPsalmRead", inPlace := ["internal/bytealg.IndexByteString", "internal/bytealg.IndexString"], unfollowed := true, recurses := true, named := ["internal/bytealg.MaxLen", "unicode/utf8.first", "unicode/utf8.acceptRanges"], apart := false, laid := [("unicode/utf8.acceptRanges", laid_unicode_utf8_acceptRanges), ("unicode/utf8.first", laid_unicode_utf8_first)], narrowed := true }
def FnPsalmReadUptoSaid : Prop := fnPsalmReadUptoRow.holds Tryd.pinned (OpenSpec.upto fnPsalmReadSpec)

/-- 'laws.FnExactPsalmRead', WHERE WHAT IT READS IS OF BULK AT MOST 1048576: true; the input reads as it did. -/
def fnExactPsalmReadUptoRow : OpenClaim := { program := "ytdgmkfbmeaalpaadoor", sum := "3fbf19faf8306961229f467e1b1df55dbfaee18a84848f0df2046032eef86d13", func := "loop.example/neumes/laws.FnExactPsalmRead", spec := "fnExactPsalmRead", inPlace := ["internal/bytealg.IndexByteString", "internal/bytealg.IndexString"], unfollowed := true, recurses := true, named := ["internal/bytealg.MaxLen", "unicode/utf8.first", "unicode/utf8.acceptRanges"], apart := false, laid := [("unicode/utf8.acceptRanges", laid_unicode_utf8_acceptRanges), ("unicode/utf8.first", laid_unicode_utf8_first)], narrowed := true }
def FnExactPsalmReadUptoSaid : Prop := fnExactPsalmReadUptoRow.holds Tryd.pinned (OpenSpec.upto fnExactPsalmReadSpec)

/-- 'laws.FnExactPsalmBest', WHERE WHAT IT READS IS OF BULK AT MOST 1048576: true; the input reads as it did. -/
def fnExactPsalmBestUptoRow : OpenClaim := { program := "ytdgmkfbmeaalpaadoor", sum := "3fbf19faf8306961229f467e1b1df55dbfaee18a84848f0df2046032eef86d13", func := "loop.example/neumes/laws.FnExactPsalmBest", spec := "fnExactPsalmBest", inPlace := ["internal/bytealg.IndexByteString", "internal/bytealg.IndexString"], unfollowed := true, recurses := true, named := ["internal/bytealg.MaxLen", "unicode/utf8.first", "unicode/utf8.acceptRanges"], apart := false, laid := [("unicode/utf8.acceptRanges", laid_unicode_utf8_acceptRanges), ("unicode/utf8.first", laid_unicode_utf8_first)], narrowed := true }
def FnExactPsalmBestUptoSaid : Prop := fnExactPsalmBestUptoRow.holds Tryd.pinned (OpenSpec.upto fnExactPsalmBestSpec)

/-- 'laws.FnPsalmMove', WHERE WHAT IT READS IS OF BULK AT MOST 1048576: true; the input reads as it did. -/
def fnPsalmMoveUptoRow : OpenClaim := { program := "ytdgmkfbmeaalpaadoor", sum := "3fbf19faf8306961229f467e1b1df55dbfaee18a84848f0df2046032eef86d13", func := "loop.example/neumes/laws.FnPsalmMove", spec := "fnPsalmMove", inPlace := ["internal/bytealg.IndexByteString", "internal/bytealg.IndexString"], unfollowed := true, recurses := true, named := ["loop.example/neumes/impl.letterHeights", "internal/bytealg.MaxLen", "unicode/utf8.first", "unicode/utf8.acceptRanges"], apart := false, laid := [("unicode/utf8.acceptRanges", laid_unicode_utf8_acceptRanges), ("loop.example/neumes/impl.letterHeights", laid_loop_example_neumes_impl_letterHeights), ("unicode/utf8.first", laid_unicode_utf8_first)], narrowed := true }
def FnPsalmMoveUptoSaid : Prop := fnPsalmMoveUptoRow.holds Tryd.pinned (OpenSpec.upto fnPsalmMoveSpec)

end Rows
end Go.Proofs.YtdgmkfbmeaalpaaDoor
