-- Printed by a program of this session's (wip/tools/mkprint.py, pr.sh) out of Lean's print of the translation; Lean checks it.
import Derived.Test.YthpeiboobnnfgaaProg
import Derived.Below
import Derived.Deep.Draws
import Derived.Deep.AppendLies
import Derived.Maps.AppendAt
import Derived.OwnWalk
import Derived.Laws.BytesArg
import Derived.Laws.MakeOwn
import Derived.Laws.OwnMore
import Derived.Deep.OwnRows
import Derived.Tactics
import Derived.Lib.ConvBytes
import Derived.Laws.Slices
import Derived.WalkKit
import Derived.KernelRfl
import Derived.RowKit3
import Derived.Deep.LoopGhost
import Derived.Deep.QuietTactic
import Derived.BigQuiet
import Derived.WideLaws
import Derived.Deep.DeepCutAuto
import Derived.Deep.CutBlock
import Derived.Deep.RegionHeld3
import Derived.Laws.Rows
import Derived.Lib.AppendStr
import Derived.ArgAppend
import Derived.Laws.IdiomCopy
import Derived.OrdersHeld
import Derived.Laws.BitsLemmas
import Derived.RowKit
import Derived.Test.YthpeiboobnnfgaaWWords
import Derived.Test.YthpeiboobnnfgaaWLast
import Derived.Test.YthpeiboobnnfgaaWTab
import Derived.Test.YthpeiboobnnfgaaWFour
import Derived.Test.YthpeiboobnnfgaaWQPut
import Derived.Test.YthpeiboobnnfgaaWApart
import Derived.Test.YthpeiboobnnfgaaWArr
import Derived.Test.YthpeiboobnnfgaaWZeros
import Derived.Test.YthpeiboobnnfgaaWFoot
import Derived.Test.YthpeiboobnnfgaaWKept
import Derived.Test.YthpeiboobnnfgaaWShare
import Derived.Test.YthpeiboobnnfgaaWN
import Derived.Test.YthpeiboobnnfgaaWFootNe
import Derived.Test.YthpeiboobnnfgaaWAt
import Derived.Test.YthpeiboobnnfgaaWEqStruct
import Derived.Test.YthpeiboobnnfgaaWRepsOne
import Derived.Test.YthpeiboobnnfgaaWInv
import Derived.Test.YthpeiboobnnfgaaWInvWords
import Derived.Test.YthpeiboobnnfgaaWGuard
import Derived.Test.YthpeiboobnnfgaaWNEv
import Derived.Test.YthpeiboobnnfgaaWMore
namespace Go.Proofs.Ythpeiboobnnfgaa.E
open Go.RowKit Go.Proofs.YthpeiboobnnfgaaW.PrintWords Go.Proofs.YthpeiboobnnfgaaW.PrintLast Go.Proofs.YthpeiboobnnfgaaW.PrintMore
attribute [local go_sem] max2_int min2_int max_two min_two max_three min_three max_four min_four   -- for this text's walks alone
set_option linter.unusedVariables false
set_option linter.unusedSimpArgs false



def errW : Option Int → Value
 | none => .nilIface
 | some c => .iface 0 (.int .i64 c)
theorem errW_none : errW none = .nilIface := rfl
theorem errW_some (c : Int) : errW (some c) = .iface 0 (.int .i64 c) := rfl

theorem info3 : (Try.prog.info? 3).map (fun i => (i.zero, i.size, i.bytes)) = some (some (.int .i64 0), 1, 8) := by kernel_rfl
theorem info5 : (Try.prog.info? 5).map (fun i => (i.zero, i.size, i.bytes)) = some (some (.int .u8 0), 1, 1) := by kernel_rfl
theorem info9 : (Try.prog.info? 9).map (fun i => (i.zero, i.size, i.bytes)) = some (some (.string ⟨#[]⟩), 1, 16) := by kernel_rfl
theorem info36 : (Try.prog.info? 36).map (fun i => (i.zero, i.size, i.bytes)) = some (some (.agg #[(.int .i64 0), (.bool false)]), 2, 16) := by kernel_rfl
theorem info46 : (Try.prog.info? 46).map (fun i => (i.zero, i.size, i.bytes)) = some (some (.slice none 0 0), 1, 24) := by kernel_rfl
theorem info63 : (Try.prog.info? 63).map (fun i => (i.zero, i.size, i.bytes)) = some (some .nilIface, 1, 16) := by kernel_rfl
-- the values' own types
theorem str_leq_ (t : TypeId) (a b : ByteArray) : binOp .leq t (.string a) (.string b) = pure (.bool (Op.bytesLess a.toList b.toList || a.toList == b.toList)) := by simp [binOp, Op.stringOp]
theorem str_gtr_ (t : TypeId) (a b : ByteArray) : binOp .gtr t (.string a) (.string b) = pure (.bool !(Op.bytesLess a.toList b.toList || a.toList == b.toList)) := by simp [binOp, Op.stringOp]
theorem str_geq_ (t : TypeId) (a b : ByteArray) : binOp .geq t (.string a) (.string b) = pure (.bool !(Op.bytesLess a.toList b.toList)) := by simp [binOp, Op.stringOp]
theorem en_gate {P : Program} {ops : Array Oper} {rest : List Oper} {o : Oper} {a : Act} {Q : Exit → Act → World → Prop} {W : World} {x : Operand} {m : String} {xs : Array Operand} {ts : Array TypeId} (_ho : o.op = .call { callee := .invoke x m, args := xs, argTypes := ts }) (h : wpList P ops Q (o :: rest) a W) : wpList P ops Q (o :: rest) a W := h
section
variable {P : Program} {ops : Array Oper} {Q : Exit → Act → World → Prop}
/-- A call of a function value that holds one known function. -/
theorem runsF_ {oi : Oper} {a : Act} {w : World} {f : FuncId} {fn : Func} {o : Operand} {xs : Array Operand} {ts : Array TypeId} (hf : P.funcs[f]? = some fn) (hname : (fn.name == "runtime.NumGoroutine") = false) (hb : fn.body.isSome = true) (args : Array Value)
  (hop : oi.op = .call { callee := .value o, args := xs, argTypes := ts }) (hv : a.eval o = .func (.func f) #[] #[]) (hargs : xs.map a.eval = args) : (execOp a.eval oi).run P w = .ok (.enter f args) w := by
 have he := enters_ hf hname hb args w
 unfold execOp
 simp [hop, resolve, Deferred.ofValue, invoke, hv, hargs, he]
theorem goesF_ {oi : Oper} {N : Option Tmp} {a : Act} {w : World} {K : Act → World → Prop} {f : FuncId} {fn : Func} {o : Operand} {xs : Array Operand} {ts : Array TypeId} (hf : P.funcs[f]? = some fn) (hname : (fn.name == "runtime.NumGoroutine") = false) (hb : fn.body.isSome = true) (args : Array Value)
  (hw : Region.wanted oi (yielded ops a.tmps) = true) (hN : oi.dst = N) (hop : oi.op = .call { callee := .value o, args := xs, argTypes := ts }) (hv : a.eval o = .func (.func f) #[] #[]) (hargs : xs.map a.eval = args)
  (h : Calls P f args w fun e w' => ∃ v, e = .returned v ∧ K (a.put N v) w') : if Region.wanted oi (yielded ops a.tmps) = true then Oper.wp P oi a w K Q else K (a.put N undef) w :=
 call_ f args hw hN (runsF_ hf hname hb args hop hv hargs) h
theorem goesLF_ {rest : List Oper} {oi : Oper} {a : Act} {w : World} (N : Option Tmp) (hd : oi.dst = N) (hg : oi.guard = none) {f : FuncId} {fn : Func} {o : Operand} {xs : Array Operand} {ts : Array TypeId} (hf : P.funcs[f]? = some fn) (hname : (fn.name == "runtime.NumGoroutine") = false) (hb : fn.body.isSome = true) (args : Array Value)
  (hop : oi.op = .call { callee := .value o, args := xs, argTypes := ts }) (hv : a.eval o = .func (.func f) #[] #[]) (hargs : xs.map a.eval = args)
  (h : Calls P f args w fun e w' => ∃ v, e = .returned v ∧ wpList P ops Q rest (a.put N v) w') : wpList P ops Q (oi :: rest) a w := by
 refine wpList_plain hg fun K hK => ?_
 unfold Oper.wp
 rw [runsF_ hf hname hb args hop hv hargs, Oper.upon_enter]
 refine Calls.mono h fun e w'' hh => ?_
 obtain ⟨v, rfl, hk⟩ := hh
 subst hd
 exact hK _ _ hk
end
/-! #### enumeration 63 -/
def en63W (x : Int) : Value := if x = 1 then .iface 80 (.agg #[]) else if x = 2 then .iface 73 (.agg #[]) else if x = 3 then .iface 81 (.agg #[]) else if x = 4 then .iface 82 (.agg #[]) else .nilIface
theorem en63_one (x : Int) : (en63W x).oneCell' = true := by unfold en63W; (repeat' split) <;> rfl
theorem en63_mk1 : Value.iface 80 (.agg #[]) = en63W 1 := rfl
theorem en63_mk2 : Value.iface 73 (.agg #[]) = en63W 2 := rfl
theorem en63_mk3 : Value.iface 81 (.agg #[]) = en63W 3 := rfl
theorem en63_mk4 : Value.iface 82 (.agg #[]) = en63W 4 := rfl
theorem en63_nil80 (W : World) : (Instr.typeAssert .nilIface 63 80 true).run Try.prog W = .ok (.tuple #[.agg #[], .bool false]) W := by kernel_rfl
theorem en63_nil73 (W : World) : (Instr.typeAssert .nilIface 63 73 true).run Try.prog W = .ok (.tuple #[.agg #[], .bool false]) W := by kernel_rfl
theorem en63_nil81 (W : World) : (Instr.typeAssert .nilIface 63 81 true).run Try.prog W = .ok (.tuple #[.agg #[], .bool false]) W := by kernel_rfl
theorem en63_nil82 (W : World) : (Instr.typeAssert .nilIface 63 82 true).run Try.prog W = .ok (.tuple #[.agg #[], .bool false]) W := by kernel_rfl
theorem en63_ta80 (x : Int) (W : World) : (Instr.typeAssert (en63W x) 63 80 true).run Try.prog W = .ok (.tuple #[.agg #[], .bool (x == 1)]) W := by
 by_cases h1 : x = 1
 ·subst h1
  kernel_rfl
 by_cases h2 : x = 2
 ·subst h2
  kernel_rfl
 by_cases h3 : x = 3
 ·subst h3
  kernel_rfl
 by_cases h4 : x = 4
 ·subst h4
  kernel_rfl
 have e : en63W x = .nilIface := by unfold en63W; simp [h1, h2, h3, h4]
 rw [e, show (x == 1) = false from beq_eq_false_iff_ne.mpr h1]
 exact en63_nil80 W
theorem en63_ta73 (x : Int) (W : World) : (Instr.typeAssert (en63W x) 63 73 true).run Try.prog W = .ok (.tuple #[.agg #[], .bool (x == 2)]) W := by
 by_cases h1 : x = 1
 ·subst h1
  kernel_rfl
 by_cases h2 : x = 2
 ·subst h2
  kernel_rfl
 by_cases h3 : x = 3
 ·subst h3
  kernel_rfl
 by_cases h4 : x = 4
 ·subst h4
  kernel_rfl
 have e : en63W x = .nilIface := by unfold en63W; simp [h1, h2, h3, h4]
 rw [e, show (x == 2) = false from beq_eq_false_iff_ne.mpr h2]
 exact en63_nil73 W
theorem en63_ta81 (x : Int) (W : World) : (Instr.typeAssert (en63W x) 63 81 true).run Try.prog W = .ok (.tuple #[.agg #[], .bool (x == 3)]) W := by
 by_cases h1 : x = 1
 ·subst h1
  kernel_rfl
 by_cases h2 : x = 2
 ·subst h2
  kernel_rfl
 by_cases h3 : x = 3
 ·subst h3
  kernel_rfl
 by_cases h4 : x = 4
 ·subst h4
  kernel_rfl
 have e : en63W x = .nilIface := by unfold en63W; simp [h1, h2, h3, h4]
 rw [e, show (x == 3) = false from beq_eq_false_iff_ne.mpr h3]
 exact en63_nil81 W
theorem en63_ta82 (x : Int) (W : World) : (Instr.typeAssert (en63W x) 63 82 true).run Try.prog W = .ok (.tuple #[.agg #[], .bool (x == 4)]) W := by
 by_cases h1 : x = 1
 ·subst h1
  kernel_rfl
 by_cases h2 : x = 2
 ·subst h2
  kernel_rfl
 by_cases h3 : x = 3
 ·subst h3
  kernel_rfl
 by_cases h4 : x = 4
 ·subst h4
  kernel_rfl
 have e : en63W x = .nilIface := by unfold en63W; simp [h1, h2, h3, h4]
 rw [e, show (x == 4) = false from beq_eq_false_iff_ne.mpr h4]
 exact en63_nil82 W
theorem at_en63 {w : World} {A : Option Addr} {n : Nat} {xs : List Int} (h : (Kd.scalar en63W en63_one).C w A n xs) (i : Int) (h0 : 0 ≤ i) (h1 : i < n) : ∃ ad, A = some ad ∧ w.cell? (ad.add i.toNat) = some (en63W (rd xs i)) :=
 ReadsOf.at_ (Kd.reads_of_C (enc := en63W) (d := 0) (h1 := en63_one) h) i h0 h1
def en63_letter.f (x : Int) : Option Int := if x = 1 then some 105 else if x = 2 then some 107 else if x = 3 then some 111 else if x = 4 then some 114 else none
def en63_letter.fn (x : Int) : Nat := if x = 1 then 73 else if x = 2 then 72 else if x = 3 then 74 else if x = 4 then 75 else 0
def en63_letter.Goes (x : Int) (w : World) (Q : Ending → World → Prop) : Prop := Calls Try.prog (en63_letter.fn x) #[.agg #[]] w Q
theorem en63_letter.Goes.mono {x : Int} {w : World} {Q Q' : Ending → World → Prop} (h : en63_letter.Goes x w Q) (hq : ∀ e w', Q e w' → Q' e w') : en63_letter.Goes x w Q' := Calls.mono h hq
theorem en63_letter.runs {oi : Oper} {a : Act} {w : World} {o : Operand} {x r : Int} (hop : oi.op = .call { callee := .invoke o "loop.example/neumes/impl.letter", args := #[], argTypes := #[] }) (hv : a.eval o = en63W x) (hr : en63_letter.f x = some r) : (execOp a.eval oi).run Try.prog w = .ok (.enter (en63_letter.fn x) #[.agg #[]]) w := by
 by_cases h1 : x = 1
 ·subst h1
  have he := enters_ (P := Try.prog) Try.func73 (by kernel_rfl) rfl #[.agg #[]] w
  have hm : (method (104 + Made.depth) 80 (.agg #[]) "loop.example/neumes/impl.letter").run Try.prog w = .ok (73, .agg #[]) w := by kernel_rfl
  unfold execOp
  simp [hop, resolve, invoke, callMethod, hv, show en63W 1 = .iface 80 (.agg #[]) from rfl, hm, he, show en63_letter.fn 1 = 73 from rfl]
 by_cases h2 : x = 2
 ·subst h2
  have he := enters_ (P := Try.prog) Try.func72 (by kernel_rfl) rfl #[.agg #[]] w
  have hm : (method (104 + Made.depth) 73 (.agg #[]) "loop.example/neumes/impl.letter").run Try.prog w = .ok (72, .agg #[]) w := by kernel_rfl
  unfold execOp
  simp [hop, resolve, invoke, callMethod, hv, show en63W 2 = .iface 73 (.agg #[]) from rfl, hm, he, show en63_letter.fn 2 = 72 from rfl]
 by_cases h3 : x = 3
 ·subst h3
  have he := enters_ (P := Try.prog) Try.func74 (by kernel_rfl) rfl #[.agg #[]] w
  have hm : (method (104 + Made.depth) 81 (.agg #[]) "loop.example/neumes/impl.letter").run Try.prog w = .ok (74, .agg #[]) w := by kernel_rfl
  unfold execOp
  simp [hop, resolve, invoke, callMethod, hv, show en63W 3 = .iface 81 (.agg #[]) from rfl, hm, he, show en63_letter.fn 3 = 74 from rfl]
 by_cases h4 : x = 4
 ·subst h4
  have he := enters_ (P := Try.prog) Try.func75 (by kernel_rfl) rfl #[.agg #[]] w
  have hm : (method (104 + Made.depth) 82 (.agg #[]) "loop.example/neumes/impl.letter").run Try.prog w = .ok (75, .agg #[]) w := by kernel_rfl
  unfold execOp
  simp [hop, resolve, invoke, callMethod, hv, show en63W 4 = .iface 82 (.agg #[]) from rfl, hm, he, show en63_letter.fn 4 = 75 from rfl]
 simp [en63_letter.f, h1, h2, h3, h4] at hr
theorem en63_letter.goes {ops : Array Oper} {Q : Exit → Act → World → Prop} {rest : List Oper} {oi : Oper} {a : Act} {w : World} (N : Option Tmp) (hd : oi.dst = N) (hg : oi.guard = none) {o : Operand} {x r : Int} (hop : oi.op = .call { callee := .invoke o "loop.example/neumes/impl.letter", args := #[], argTypes := #[] }) (hv : a.eval o = en63W x) (hr : en63_letter.f x = some r) (h : en63_letter.Goes x w fun e w' => ∃ v, e = .returned v ∧ wpList Try.prog ops Q rest (a.put N v) w') : wpList Try.prog ops Q (oi :: rest) a w := by
 refine wpList_plain hg fun K hK => ?_
 unfold Oper.wp
 rw [en63_letter.runs hop hv hr, Oper.upon_enter]
 refine Calls.mono h fun e w'' hh => ?_
 obtain ⟨v, rfl, hk⟩ := hh
 subst hd
 exact hK _ _ hk
theorem en63_letter.call1 (w : World) : Calls Try.prog 73 #[.agg #[]] w fun e w' => e = .returned (.int .u8 105) ∧ Below w.heap.size w w' := by
 go_enter Try.func73, Try.ntmps73
 go_wp2
 go_ret
 exact ⟨rfl, by repeat (first | exact Below.refl _ _ | apply below_alloc | apply pw_below_drewN | apply below_drew1)⟩
theorem en63_letter.call2 (w : World) : Calls Try.prog 72 #[.agg #[]] w fun e w' => e = .returned (.int .u8 107) ∧ Below w.heap.size w w' := by
 go_enter Try.func72, Try.ntmps72
 go_wp2
 go_ret
 exact ⟨rfl, by repeat (first | exact Below.refl _ _ | apply below_alloc | apply pw_below_drewN | apply below_drew1)⟩
theorem en63_letter.call3 (w : World) : Calls Try.prog 74 #[.agg #[]] w fun e w' => e = .returned (.int .u8 111) ∧ Below w.heap.size w w' := by
 go_enter Try.func74, Try.ntmps74
 go_wp2
 go_ret
 exact ⟨rfl, by repeat (first | exact Below.refl _ _ | apply below_alloc | apply pw_below_drewN | apply below_drew1)⟩
theorem en63_letter.call4 (w : World) : Calls Try.prog 75 #[.agg #[]] w fun e w' => e = .returned (.int .u8 114) ∧ Below w.heap.size w w' := by
 go_enter Try.func75, Try.ntmps75
 go_wp2
 go_ret
 exact ⟨rfl, by repeat (first | exact Below.refl _ _ | apply below_alloc | apply pw_below_drewN | apply below_drew1)⟩
theorem en63_letter.calls (x r : Int) (w : World) (hr : en63_letter.f x = some r) : en63_letter.Goes x w fun e w' => e = .returned (.int .u8 r) ∧ Below w.heap.size w w' := by
 by_cases h1 : x = 1
 ·subst h1
  obtain rfl : 105 = r := by simpa [en63_letter.f] using hr
  exact en63_letter.call1 w
 by_cases h2 : x = 2
 ·subst h2
  obtain rfl : 107 = r := by simpa [en63_letter.f] using hr
  exact en63_letter.call2 w
 by_cases h3 : x = 3
 ·subst h3
  obtain rfl : 111 = r := by simpa [en63_letter.f] using hr
  exact en63_letter.call3 w
 by_cases h4 : x = 4
 ·subst h4
  obtain rfl : 114 = r := by simpa [en63_letter.f] using hr
  exact en63_letter.call4 w
 simp [en63_letter.f, h1, h2, h3, h4] at hr
/-! #### struct type 48 -/
structure S48 where
 f0 : Int
 f1 : Bool
def z48 : S48 := ⟨(0 : Int), false⟩
def k48 : Kd S48 := Kd.iso (Kd.pair (Kd.int .i64) Kd.bool) (fun x : S48 => (x.f0, x.f1))
theorem k48_heap : Kd.Heap k48 := Kd.heap_iso _ (Kd.heap_pair (Kd.heap_int .i64) Kd.heap_bool)
theorem k48_open {w : World} {x : S48} {cs : List Value} (h : k48.K w x cs) : cs = [.int .i64 x.f0, .bool x.f1] := by
 obtain ⟨_, _, rfl, rfl, rfl⟩ := h
 exact rfl
theorem k48_openM {w : World} {base : Nat} {ok : Nat → Prop} {x : S48} {cs : List Value} (h : k48.M w base ok x cs) : cs = [.int .i64 x.f0, .bool x.f1] := by
 obtain ⟨_, _, rfl, rfl, rfl⟩ := h
 exact rfl
theorem k48_mk (w : World) (x : S48)  : k48.K w x [.int .i64 x.f0, .bool x.f1] := ⟨[.int .i64 x.f0], [.bool x.f1], rfl, rfl, rfl⟩
theorem k48_mkM (w : World) (base : Nat) (ok : Nat → Prop) (x : S48)  : k48.M w base ok x [.int .i64 x.f0, .bool x.f1] := ⟨[.int .i64 x.f0], [.bool x.f1], rfl, rfl, rfl⟩
theorem k48_mkF (W : World) (ok : Nat → Prop) (x : S48) : Kd.FK k48 W ok x [.int .i64 x.f0, .bool x.f1] := fun W2 _ => k48_mk W2 x
def rd_T48 (xs : List S48) (i : Int) : S48 := xs.getD i.toNat z48
theorem at_T48 {w : World} {A : Option Addr} {n : Nat} {xs : List S48} (h : Kd.C k48 w A n xs) (i : Int) (h0 : 0 ≤ i) (h1 : i < n) : ∃ ad , A = some ad ∧ w.cell? (ad.add (i.toNat * 2)) = some (.int .i64 (rd_T48 xs i).f0) ∧ w.cell? ⟨(ad.add (i.toNat * 2)).block, (ad.add (i.toNat * 2)).off + 1, none⟩ = some (.bool (rd_T48 xs i).f1) := by
 obtain ⟨ad, c, e, _, hK, hc0⟩ := Kd.C_get h z48 i h0 h1
 have hc : ∀ j u, c[j]? = some u → w.cell? (ad.add (i.toNat * 2 + j)) = some u := hc0
 obtain rfl := k48_open hK
 exact ⟨ad, e, hc 0 _ rfl, by rw [← add_field _ _ 1 (by omega)]; exact hc 1 _ rfl⟩

/-! #### struct type 36 -/
structure S36 where
 f0 : Int
 f1 : Bool
def z36 : S36 := ⟨(0 : Int), false⟩
def k36 : Kd S36 := Kd.iso (Kd.pair (Kd.int .i64) Kd.bool) (fun x : S36 => (x.f0, x.f1))
theorem k36_heap : Kd.Heap k36 := Kd.heap_iso _ (Kd.heap_pair (Kd.heap_int .i64) Kd.heap_bool)
theorem k36_open {w : World} {x : S36} {cs : List Value} (h : k36.K w x cs) : cs = [.int .i64 x.f0, .bool x.f1] := by
 obtain ⟨_, _, rfl, rfl, rfl⟩ := h
 exact rfl
theorem k36_openM {w : World} {base : Nat} {ok : Nat → Prop} {x : S36} {cs : List Value} (h : k36.M w base ok x cs) : cs = [.int .i64 x.f0, .bool x.f1] := by
 obtain ⟨_, _, rfl, rfl, rfl⟩ := h
 exact rfl
theorem k36_mk (w : World) (x : S36)  : k36.K w x [.int .i64 x.f0, .bool x.f1] := ⟨[.int .i64 x.f0], [.bool x.f1], rfl, rfl, rfl⟩
theorem k36_mkM (w : World) (base : Nat) (ok : Nat → Prop) (x : S36)  : k36.M w base ok x [.int .i64 x.f0, .bool x.f1] := ⟨[.int .i64 x.f0], [.bool x.f1], rfl, rfl, rfl⟩
theorem k36_mkF (W : World) (ok : Nat → Prop) (x : S36) : Kd.FK k36 W ok x [.int .i64 x.f0, .bool x.f1] := fun W2 _ => k36_mk W2 x
def rd_T36 (xs : List S36) (i : Int) : S36 := xs.getD i.toNat z36
theorem at_T36 {w : World} {A : Option Addr} {n : Nat} {xs : List S36} (h : Kd.C k36 w A n xs) (i : Int) (h0 : 0 ≤ i) (h1 : i < n) : ∃ ad , A = some ad ∧ w.cell? (ad.add (i.toNat * 2)) = some (.int .i64 (rd_T36 xs i).f0) ∧ w.cell? ⟨(ad.add (i.toNat * 2)).block, (ad.add (i.toNat * 2)).off + 1, none⟩ = some (.bool (rd_T36 xs i).f1) := by
 obtain ⟨ad, c, e, _, hK, hc0⟩ := Kd.C_get h z36 i h0 h1
 have hc : ∀ j u, c[j]? = some u → w.cell? (ad.add (i.toNat * 2 + j)) = some u := hc0
 obtain rfl := k36_open hK
 exact ⟨ad, e, hc 0 _ rfl, by rw [← add_field _ _ 1 (by omega)]; exact hc 1 _ rfl⟩

def rd_L4 (xs : List (List Int)) (i : Int) : (List Int) := xs.getD i.toNat ([] : List Int)
theorem at_L4 {w : World} {A : Option Addr} {n : Nat} {xs : List (List Int)} (h : Kd.C (Kd.slice 3 (Kd.int .i64)) w A n xs) (i : Int) (h0 : 0 ≤ i) (h1 : i < n) : ∃ ad A0 c0, A = some ad ∧ w.cell? (ad.add i.toNat) = some (.slice A0 (rd_L4 xs i).length c0) ∧ (rd_L4 xs i).length ≤ c0 ∧ (Kd.int .i64).C w A0 (rd_L4 xs i).length (rd_L4 xs i) := by
 obtain ⟨ad, c, e, _, hK, hc0⟩ := Kd.C_get h ([] : List Int) i h0 h1
 have hc : ∀ j u, c[j]? = some u → w.cell? (ad.add (i.toNat * 1 + j)) = some u := hc0
 obtain ⟨A0, c0, rfl, l0, g0⟩ := hK
 exact ⟨ad, A0, c0, e, by have hq := hc 0 _ rfl; rwa [Nat.mul_one, Nat.add_zero] at hq, l0, g0⟩

/-! #### struct type 65 -/
structure S65 where
 f0 : Int
 f1 : Int
 f2 : Int
def z65 : S65 := ⟨(0 : Int), (0 : Int), (0 : Int)⟩
def k65 : Kd S65 := Kd.iso (Kd.pair (Kd.int .i64) (Kd.pair (Kd.int .i64) (Kd.int .i64))) (fun x : S65 => (x.f0, x.f1, x.f2))
theorem k65_heap : Kd.Heap k65 := Kd.heap_iso _ (Kd.heap_pair (Kd.heap_int .i64) (Kd.heap_pair (Kd.heap_int .i64) (Kd.heap_int .i64)))
theorem k65_open {w : World} {x : S65} {cs : List Value} (h : k65.K w x cs) : cs = [.int .i64 x.f0, .int .i64 x.f1, .int .i64 x.f2] := by
 obtain ⟨_, _, rfl, rfl, ⟨_, _, rfl, rfl, rfl⟩⟩ := h
 exact rfl
theorem k65_openM {w : World} {base : Nat} {ok : Nat → Prop} {x : S65} {cs : List Value} (h : k65.M w base ok x cs) : cs = [.int .i64 x.f0, .int .i64 x.f1, .int .i64 x.f2] := by
 obtain ⟨_, _, rfl, rfl, ⟨_, _, rfl, rfl, rfl⟩⟩ := h
 exact rfl
theorem k65_mk (w : World) (x : S65)  : k65.K w x [.int .i64 x.f0, .int .i64 x.f1, .int .i64 x.f2] := ⟨[.int .i64 x.f0], [.int .i64 x.f1, .int .i64 x.f2], rfl, rfl, ⟨[.int .i64 x.f1], [.int .i64 x.f2], rfl, rfl, rfl⟩⟩
theorem k65_mkM (w : World) (base : Nat) (ok : Nat → Prop) (x : S65)  : k65.M w base ok x [.int .i64 x.f0, .int .i64 x.f1, .int .i64 x.f2] := ⟨[.int .i64 x.f0], [.int .i64 x.f1, .int .i64 x.f2], rfl, rfl, ⟨[.int .i64 x.f1], [.int .i64 x.f2], rfl, rfl, rfl⟩⟩
theorem k65_mkF (W : World) (ok : Nat → Prop) (x : S65) : Kd.FK k65 W ok x [.int .i64 x.f0, .int .i64 x.f1, .int .i64 x.f2] := fun W2 _ => k65_mk W2 x
def rd_T65 (xs : List S65) (i : Int) : S65 := xs.getD i.toNat z65
theorem at_T65 {w : World} {A : Option Addr} {n : Nat} {xs : List S65} (h : Kd.C k65 w A n xs) (i : Int) (h0 : 0 ≤ i) (h1 : i < n) : ∃ ad , A = some ad ∧ w.cell? (ad.add (i.toNat * 3)) = some (.int .i64 (rd_T65 xs i).f0) ∧ w.cell? ⟨(ad.add (i.toNat * 3)).block, (ad.add (i.toNat * 3)).off + 1, none⟩ = some (.int .i64 (rd_T65 xs i).f1) ∧ w.cell? ⟨(ad.add (i.toNat * 3)).block, (ad.add (i.toNat * 3)).off + 2, none⟩ = some (.int .i64 (rd_T65 xs i).f2) := by
 obtain ⟨ad, c, e, _, hK, hc0⟩ := Kd.C_get h z65 i h0 h1
 have hc : ∀ j u, c[j]? = some u → w.cell? (ad.add (i.toNat * 3 + j)) = some u := hc0
 obtain rfl := k65_open hK
 exact ⟨ad, e, hc 0 _ rfl, by rw [← add_field _ _ 1 (by omega)]; exact hc 1 _ rfl, by rw [← add_field _ _ 2 (by omega)]; exact hc 2 _ rfl⟩

end Go.Proofs.Ythpeiboobnnfgaa.E
