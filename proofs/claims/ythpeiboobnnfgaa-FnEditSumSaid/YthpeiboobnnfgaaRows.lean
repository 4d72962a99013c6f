/-
  No cell of these rows narrows 'for every input' (looked for: loops, veiled, ifaces, maps, wideKeys, modest, calm, conditions, laid).
  DERIVED. THE GIVEN ROWS OF THIS SEAT. 10 by the template 'for every input the law returns true; each argument reads behind the call as it read before'; 0 by the template 'total and deterministic' (their statements: YthpeiboobnnfgaaTotals.lean).
  GIVEN WITH THE SEED: the statements are not yours to turn. If you find one false, say at which input.
  Laid BY PROGRAM, IN A SANDBOX (cutbox-rows.mjs): the forced cells as the released guide's own fill.sh prints them over the translation d9e6a0afead715c7… (all of the seat's roots in one cut). By AI agents, Wed Nov 11 2026. No macro, syntax, notation, axiom, sorry.
-/
import Derived.Test.YthpeiboobnnfgaaChecked
import GoSem.Claim
import GoSem.ClaimJoined
import GoSem.ClaimMapViews
import Derived.JoinedTies
import Derived.KernelRfl
namespace Go.Proofs.Ythpeiboobnnfgaa
/- THE CELL 'sum', in the pinned program and in every row, IS THE sha256 OF THE DUMP (.gsa) THAT YthpeiboobnnfgaaProg.lean LOADS. Nothing in Lean hashes anything: it is a label: what it is worth is what the hold of that sum in a sandbox is worth. -/
noncomputable def Try.pinned : Pinned := { name := "ythpeiboobnnfgaa", sum := "d9e6a0afead715c73d7c6211849773d3a970d862fa28b10ee9f37af13d505dc8", checked := Try.checked }
namespace Rows
def none {H : Type} : Left H := { results := [], args := [] }

/-- 'laws.FnExactEditCommon': WHATEVER THE INPUT: true; the input reads as it did. -/
def fnExactEditCommonSpec : ChangeSpec := { name := "fnExactEditCommon", fn := fun _ => fun
  | [d1, d2] => { results := [.lit (.bool true)], args := [d1, d2] }
  | _ => none }
def fnExactEditCommonRow : OpenClaim := { program := "ythpeiboobnnfgaa", sum := "d9e6a0afead715c73d7c6211849773d3a970d862fa28b10ee9f37af13d505dc8", func := "loop.example/neumes/laws.FnExactEditCommon", spec := "fnExactEditCommon", unfollowed := true, recurses := true, apart := false }
def FnExactEditCommonSaid : Prop := fnExactEditCommonRow.holds Try.pinned (OpenSpec.ofChange fnExactEditCommonSpec)

/-- ITS FALSE NEIGHBOUR: 'it returns false'. Refute it at one input. -/
def fnExactEditCommonWrong : ChangeSpec := { name := "fnExactEditCommon", fn := fun _ => fun
  | [d1, d2] => { results := [.lit (.bool false)], args := [d1, d2] }
  | _ => none }
def FnExactEditCommonWrongFalsely : Prop := fnExactEditCommonRow.holds Try.pinned (OpenSpec.ofChange fnExactEditCommonWrong)

/-- 'laws.FnExactEditCost': WHATEVER THE INPUT: true; the input reads as it did. -/
def fnExactEditCostSpec : ChangeSpec := { name := "fnExactEditCost", fn := fun _ => fun
  | [d1, d2] => { results := [.lit (.bool true)], args := [d1, d2] }
  | _ => none }
def fnExactEditCostRow : OpenClaim := { program := "ythpeiboobnnfgaa", sum := "d9e6a0afead715c73d7c6211849773d3a970d862fa28b10ee9f37af13d505dc8", func := "loop.example/neumes/laws.FnExactEditCost", spec := "fnExactEditCost", unfollowed := true, recurses := true, apart := false }
def FnExactEditCostSaid : Prop := fnExactEditCostRow.holds Try.pinned (OpenSpec.ofChange fnExactEditCostSpec)

/-- ITS FALSE NEIGHBOUR: 'it returns false'. Refute it at one input. -/
def fnExactEditCostWrong : ChangeSpec := { name := "fnExactEditCost", fn := fun _ => fun
  | [d1, d2] => { results := [.lit (.bool false)], args := [d1, d2] }
  | _ => none }
def FnExactEditCostWrongFalsely : Prop := fnExactEditCostRow.holds Try.pinned (OpenSpec.ofChange fnExactEditCostWrong)

/-- 'laws.FnExactEditSum': WHATEVER THE INPUT: true; the input reads as it did. -/
def fnExactEditSumSpec : ChangeSpec := { name := "fnExactEditSum", fn := fun _ => fun
  | [d1, d2, d3] => { results := [.lit (.bool true)], args := [d1, d2, d3] }
  | _ => none }
def fnExactEditSumRow : OpenClaim := { program := "ythpeiboobnnfgaa", sum := "d9e6a0afead715c73d7c6211849773d3a970d862fa28b10ee9f37af13d505dc8", func := "loop.example/neumes/laws.FnExactEditSum", spec := "fnExactEditSum", unfollowed := true, recurses := true, apart := false }
def FnExactEditSumSaid : Prop := fnExactEditSumRow.holds Try.pinned (OpenSpec.ofChange fnExactEditSumSpec)

/-- ITS FALSE NEIGHBOUR: 'it returns false'. Refute it at one input. -/
def fnExactEditSumWrong : ChangeSpec := { name := "fnExactEditSum", fn := fun _ => fun
  | [d1, d2, d3] => { results := [.lit (.bool false)], args := [d1, d2, d3] }
  | _ => none }
def FnExactEditSumWrongFalsely : Prop := fnExactEditSumRow.holds Try.pinned (OpenSpec.ofChange fnExactEditSumWrong)

/-- 'laws.FnExactEditOk': WHATEVER THE INPUT: true; the input reads as it did. -/
def fnExactEditOkSpec : ChangeSpec := { name := "fnExactEditOk", fn := fun _ => fun
  | [d1, d2, d3] => { results := [.lit (.bool true)], args := [d1, d2, d3] }
  | _ => none }
def fnExactEditOkRow : OpenClaim := { program := "ythpeiboobnnfgaa", sum := "d9e6a0afead715c73d7c6211849773d3a970d862fa28b10ee9f37af13d505dc8", func := "loop.example/neumes/laws.FnExactEditOk", spec := "fnExactEditOk", unfollowed := true, recurses := true, apart := false }
def FnExactEditOkSaid : Prop := fnExactEditOkRow.holds Try.pinned (OpenSpec.ofChange fnExactEditOkSpec)

/-- ITS FALSE NEIGHBOUR: 'it returns false'. Refute it at one input. -/
def fnExactEditOkWrong : ChangeSpec := { name := "fnExactEditOk", fn := fun _ => fun
  | [d1, d2, d3] => { results := [.lit (.bool false)], args := [d1, d2, d3] }
  | _ => none }
def FnExactEditOkWrongFalsely : Prop := fnExactEditOkRow.holds Try.pinned (OpenSpec.ofChange fnExactEditOkWrong)

/-- 'laws.FnEditJoin': WHATEVER THE INPUT: true; the input reads as it did. -/
def fnEditJoinSpec : ChangeSpec := { name := "fnEditJoin", fn := fun _ => fun
  | [d1, d2] => { results := [.lit (.bool true)], args := [d1, d2] }
  | _ => none }
def fnEditJoinRow : OpenClaim := { program := "ythpeiboobnnfgaa", sum := "d9e6a0afead715c73d7c6211849773d3a970d862fa28b10ee9f37af13d505dc8", func := "loop.example/neumes/laws.FnEditJoin", spec := "fnEditJoin", unfollowed := true, recurses := true, apart := false }
def FnEditJoinSaid : Prop := fnEditJoinRow.holds Try.pinned (OpenSpec.ofChange fnEditJoinSpec)

/-- ITS FALSE NEIGHBOUR: 'it returns false'. Refute it at one input. -/
def fnEditJoinWrong : ChangeSpec := { name := "fnEditJoin", fn := fun _ => fun
  | [d1, d2] => { results := [.lit (.bool false)], args := [d1, d2] }
  | _ => none }
def FnEditJoinWrongFalsely : Prop := fnEditJoinRow.holds Try.pinned (OpenSpec.ofChange fnEditJoinWrong)

/-- 'laws.FnEditCommon': WHATEVER THE INPUT: true; the input reads as it did. -/
def fnEditCommonSpec : ChangeSpec := { name := "fnEditCommon", fn := fun _ => fun
  | [d] => { results := [.lit (.bool true)], args := [d] }
  | _ => none }
def fnEditCommonRow : OpenClaim := { program := "ythpeiboobnnfgaa", sum := "d9e6a0afead715c73d7c6211849773d3a970d862fa28b10ee9f37af13d505dc8", func := "loop.example/neumes/laws.FnEditCommon", spec := "fnEditCommon", unfollowed := true, recurses := true, apart := false }
def FnEditCommonSaid : Prop := fnEditCommonRow.holds Try.pinned (OpenSpec.ofChange fnEditCommonSpec)

/-- ITS FALSE NEIGHBOUR: 'it returns false'. Refute it at one input. -/
def fnEditCommonWrong : ChangeSpec := { name := "fnEditCommon", fn := fun _ => fun
  | [d] => { results := [.lit (.bool false)], args := [d] }
  | _ => none }
def FnEditCommonWrongFalsely : Prop := fnEditCommonRow.holds Try.pinned (OpenSpec.ofChange fnEditCommonWrong)

/-- 'laws.FnEditCost': WHATEVER THE INPUT: true; the input reads as it did. -/
def fnEditCostSpec : ChangeSpec := { name := "fnEditCost", fn := fun _ => fun
  | [d1, d2] => { results := [.lit (.bool true)], args := [d1, d2] }
  | _ => none }
def fnEditCostRow : OpenClaim := { program := "ythpeiboobnnfgaa", sum := "d9e6a0afead715c73d7c6211849773d3a970d862fa28b10ee9f37af13d505dc8", func := "loop.example/neumes/laws.FnEditCost", spec := "fnEditCost", unfollowed := true, recurses := true, apart := false }
def FnEditCostSaid : Prop := fnEditCostRow.holds Try.pinned (OpenSpec.ofChange fnEditCostSpec)

/-- ITS FALSE NEIGHBOUR: 'it returns false'. Refute it at one input. -/
def fnEditCostWrong : ChangeSpec := { name := "fnEditCost", fn := fun _ => fun
  | [d1, d2] => { results := [.lit (.bool false)], args := [d1, d2] }
  | _ => none }
def FnEditCostWrongFalsely : Prop := fnEditCostRow.holds Try.pinned (OpenSpec.ofChange fnEditCostWrong)

/-- 'laws.FnExactEditText': WHATEVER THE INPUT: true; the input reads as it did. -/
def fnExactEditTextSpec : ChangeSpec := { name := "fnExactEditText", fn := fun _ => fun
  | [d1, d2] => { results := [.lit (.bool true)], args := [d1, d2] }
  | _ => none }
def fnExactEditTextRow : OpenClaim := { program := "ythpeiboobnnfgaa", sum := "d9e6a0afead715c73d7c6211849773d3a970d862fa28b10ee9f37af13d505dc8", func := "loop.example/neumes/laws.FnExactEditText", spec := "fnExactEditText", unfollowed := true, recurses := true, apart := false }
def FnExactEditTextSaid : Prop := fnExactEditTextRow.holds Try.pinned (OpenSpec.ofChange fnExactEditTextSpec)

/-- ITS FALSE NEIGHBOUR: 'it returns false'. Refute it at one input. -/
def fnExactEditTextWrong : ChangeSpec := { name := "fnExactEditText", fn := fun _ => fun
  | [d1, d2] => { results := [.lit (.bool false)], args := [d1, d2] }
  | _ => none }
def FnExactEditTextWrongFalsely : Prop := fnExactEditTextRow.holds Try.pinned (OpenSpec.ofChange fnExactEditTextWrong)

/-- 'laws.FnEditText': WHATEVER THE INPUT: true; the input reads as it did. -/
def fnEditTextSpec : ChangeSpec := { name := "fnEditText", fn := fun _ => fun
  | [d] => { results := [.lit (.bool true)], args := [d] }
  | _ => none }
def fnEditTextRow : OpenClaim := { program := "ythpeiboobnnfgaa", sum := "d9e6a0afead715c73d7c6211849773d3a970d862fa28b10ee9f37af13d505dc8", func := "loop.example/neumes/laws.FnEditText", spec := "fnEditText", unfollowed := true, recurses := true, apart := false }
def FnEditTextSaid : Prop := fnEditTextRow.holds Try.pinned (OpenSpec.ofChange fnEditTextSpec)

/-- ITS FALSE NEIGHBOUR: 'it returns false'. Refute it at one input. -/
def fnEditTextWrong : ChangeSpec := { name := "fnEditText", fn := fun _ => fun
  | [d] => { results := [.lit (.bool false)], args := [d] }
  | _ => none }
def FnEditTextWrongFalsely : Prop := fnEditTextRow.holds Try.pinned (OpenSpec.ofChange fnEditTextWrong)

/-- 'laws.FnEditSum': WHATEVER THE INPUT: true; the input reads as it did. -/
def fnEditSumSpec : ChangeSpec := { name := "fnEditSum", fn := fun _ => fun
  | [d] => { results := [.lit (.bool true)], args := [d] }
  | _ => none }
def fnEditSumRow : OpenClaim := { program := "ythpeiboobnnfgaa", sum := "d9e6a0afead715c73d7c6211849773d3a970d862fa28b10ee9f37af13d505dc8", func := "loop.example/neumes/laws.FnEditSum", spec := "fnEditSum", unfollowed := true, recurses := true, apart := false }
def FnEditSumSaid : Prop := fnEditSumRow.holds Try.pinned (OpenSpec.ofChange fnEditSumSpec)

/-- ITS FALSE NEIGHBOUR: 'it returns false'. Refute it at one input. -/
def fnEditSumWrong : ChangeSpec := { name := "fnEditSum", fn := fun _ => fun
  | [d] => { results := [.lit (.bool false)], args := [d] }
  | _ => none }
def FnEditSumWrongFalsely : Prop := fnEditSumRow.holds Try.pinned (OpenSpec.ofChange fnEditSumWrong)

/- THE SECOND FORM. 'bulk': how many values and letters a reading holds, each counted each time it is reached (what is shared counts as often as it is met; a slice's spare places count too). A statement '..UptoSaid' is the law's where the arguments, and the package variables that the reading takes, are together of bulk at most 1048576: NARROWER than '..Said'. Prove '..Said' where nothing that the law and all that it calls make is longer than what came in: it says more and counts as full. Else prove '..UptoSaid'. A law counts once. -/
mutual
def uptoBulk {H : Type} : DataW H → Nat
  | .lit (.string bytes) => bytes.length + 1
  | .lit _ => 1
  | .nil => 1
  | .ptr d => uptoBulk d + 1
  | .slice elems spare => uptoBulkAll elems + uptoBulkAll spare + 1
  | .agg parts => uptoBulkAll parts + 1
  | .iface _ d => uptoBulk d + 1
  | .map entries => uptoBulkEntries entries + 1
  | .held _ => 1
def uptoBulkAll {H : Type} : List (DataW H) → Nat
  | [] => 0
  | d :: r => uptoBulk d + uptoBulkAll r
def uptoBulkEntries {H : Type} : List (Lit × DataW H) → Nat
  | [] => 0
  | x :: r => uptoBulkEntry x + uptoBulkEntries r
def uptoBulkEntry {H : Type} : Lit × DataW H → Nat
  | (.string bytes, d) => bytes.length + uptoBulk d + 1
  | (_, d) => uptoBulk d + 1
 end
def uptoSmall : (H : Type) → List (DataW H) → Bool := fun _ ds => decide (uptoBulkAll ds ≤ 1048576)
def OpenSpec.upto (s : _root_.Go.ChangeSpec) : _root_.Go.OpenSpec := { _root_.Go.OpenSpec.ofChange s with cond := some uptoSmall }

/-- 'laws.FnExactEditCommon', WHERE WHAT IT READS IS OF BULK AT MOST 1048576: true; the input reads as it did. -/
def fnExactEditCommonUptoRow : OpenClaim := { program := "ythpeiboobnnfgaa", sum := "d9e6a0afead715c73d7c6211849773d3a970d862fa28b10ee9f37af13d505dc8", func := "loop.example/neumes/laws.FnExactEditCommon", spec := "fnExactEditCommon", unfollowed := true, recurses := true, apart := false, narrowed := true }
def FnExactEditCommonUptoSaid : Prop := fnExactEditCommonUptoRow.holds Try.pinned (OpenSpec.upto fnExactEditCommonSpec)

/-- 'laws.FnExactEditCost', WHERE WHAT IT READS IS OF BULK AT MOST 1048576: true; the input reads as it did. -/
def fnExactEditCostUptoRow : OpenClaim := { program := "ythpeiboobnnfgaa", sum := "d9e6a0afead715c73d7c6211849773d3a970d862fa28b10ee9f37af13d505dc8", func := "loop.example/neumes/laws.FnExactEditCost", spec := "fnExactEditCost", unfollowed := true, recurses := true, apart := false, narrowed := true }
def FnExactEditCostUptoSaid : Prop := fnExactEditCostUptoRow.holds Try.pinned (OpenSpec.upto fnExactEditCostSpec)

/-- 'laws.FnExactEditSum', WHERE WHAT IT READS IS OF BULK AT MOST 1048576: true; the input reads as it did. -/
def fnExactEditSumUptoRow : OpenClaim := { program := "ythpeiboobnnfgaa", sum := "d9e6a0afead715c73d7c6211849773d3a970d862fa28b10ee9f37af13d505dc8", func := "loop.example/neumes/laws.FnExactEditSum", spec := "fnExactEditSum", unfollowed := true, recurses := true, apart := false, narrowed := true }
def FnExactEditSumUptoSaid : Prop := fnExactEditSumUptoRow.holds Try.pinned (OpenSpec.upto fnExactEditSumSpec)

/-- 'laws.FnExactEditOk', WHERE WHAT IT READS IS OF BULK AT MOST 1048576: true; the input reads as it did. -/
def fnExactEditOkUptoRow : OpenClaim := { program := "ythpeiboobnnfgaa", sum := "d9e6a0afead715c73d7c6211849773d3a970d862fa28b10ee9f37af13d505dc8", func := "loop.example/neumes/laws.FnExactEditOk", spec := "fnExactEditOk", unfollowed := true, recurses := true, apart := false, narrowed := true }
def FnExactEditOkUptoSaid : Prop := fnExactEditOkUptoRow.holds Try.pinned (OpenSpec.upto fnExactEditOkSpec)

/-- 'laws.FnEditJoin', WHERE WHAT IT READS IS OF BULK AT MOST 1048576: true; the input reads as it did. -/
def fnEditJoinUptoRow : OpenClaim := { program := "ythpeiboobnnfgaa", sum := "d9e6a0afead715c73d7c6211849773d3a970d862fa28b10ee9f37af13d505dc8", func := "loop.example/neumes/laws.FnEditJoin", spec := "fnEditJoin", unfollowed := true, recurses := true, apart := false, narrowed := true }
def FnEditJoinUptoSaid : Prop := fnEditJoinUptoRow.holds Try.pinned (OpenSpec.upto fnEditJoinSpec)

/-- 'laws.FnEditCommon', WHERE WHAT IT READS IS OF BULK AT MOST 1048576: true; the input reads as it did. -/
def fnEditCommonUptoRow : OpenClaim := { program := "ythpeiboobnnfgaa", sum := "d9e6a0afead715c73d7c6211849773d3a970d862fa28b10ee9f37af13d505dc8", func := "loop.example/neumes/laws.FnEditCommon", spec := "fnEditCommon", unfollowed := true, recurses := true, apart := false, narrowed := true }
def FnEditCommonUptoSaid : Prop := fnEditCommonUptoRow.holds Try.pinned (OpenSpec.upto fnEditCommonSpec)

/-- 'laws.FnEditCost', WHERE WHAT IT READS IS OF BULK AT MOST 1048576: true; the input reads as it did. -/
def fnEditCostUptoRow : OpenClaim := { program := "ythpeiboobnnfgaa", sum := "d9e6a0afead715c73d7c6211849773d3a970d862fa28b10ee9f37af13d505dc8", func := "loop.example/neumes/laws.FnEditCost", spec := "fnEditCost", unfollowed := true, recurses := true, apart := false, narrowed := true }
def FnEditCostUptoSaid : Prop := fnEditCostUptoRow.holds Try.pinned (OpenSpec.upto fnEditCostSpec)

/-- 'laws.FnExactEditText', WHERE WHAT IT READS IS OF BULK AT MOST 1048576: true; the input reads as it did. -/
def fnExactEditTextUptoRow : OpenClaim := { program := "ythpeiboobnnfgaa", sum := "d9e6a0afead715c73d7c6211849773d3a970d862fa28b10ee9f37af13d505dc8", func := "loop.example/neumes/laws.FnExactEditText", spec := "fnExactEditText", unfollowed := true, recurses := true, apart := false, narrowed := true }
def FnExactEditTextUptoSaid : Prop := fnExactEditTextUptoRow.holds Try.pinned (OpenSpec.upto fnExactEditTextSpec)

/-- 'laws.FnEditText', WHERE WHAT IT READS IS OF BULK AT MOST 1048576: true; the input reads as it did. -/
def fnEditTextUptoRow : OpenClaim := { program := "ythpeiboobnnfgaa", sum := "d9e6a0afead715c73d7c6211849773d3a970d862fa28b10ee9f37af13d505dc8", func := "loop.example/neumes/laws.FnEditText", spec := "fnEditText", unfollowed := true, recurses := true, apart := false, narrowed := true }
def FnEditTextUptoSaid : Prop := fnEditTextUptoRow.holds Try.pinned (OpenSpec.upto fnEditTextSpec)

/-- 'laws.FnEditSum', WHERE WHAT IT READS IS OF BULK AT MOST 1048576: true; the input reads as it did. -/
def fnEditSumUptoRow : OpenClaim := { program := "ythpeiboobnnfgaa", sum := "d9e6a0afead715c73d7c6211849773d3a970d862fa28b10ee9f37af13d505dc8", func := "loop.example/neumes/laws.FnEditSum", spec := "fnEditSum", unfollowed := true, recurses := true, apart := false, narrowed := true }
def FnEditSumUptoSaid : Prop := fnEditSumUptoRow.holds Try.pinned (OpenSpec.upto fnEditSumSpec)

end Rows
end Go.Proofs.Ythpeiboobnnfgaa
