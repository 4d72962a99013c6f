/- Proved: for all arguments the given program's laws.FnGroups returns true, and its arguments and the package-level variables that it is given read afterwards as they read before (the given constant Rows.FnGroupsCardSaid).
Conditions: none ahead of the given statement; the statement itself begins in a world whose listed package-level variables hold what the program's text lays there, and its card ties them to that text. -/
import Derived.Test.YtldepdaglapdeaaDoorRowFnGroupsK2
section
namespace Go.Proofs.YtldepdaglapdeaaDoor.Pur
open Go.RowKit Go.ChangeShapes Go.Deep Go.Proofs.YtldepdaglapdeaaDoorW.PrintWords Go.Proofs.YtldepdaglapdeaaDoor.E
theorem open_rowP {P : Program} {H : Type} {enc : TypeId × Value → H} {W : World} {α : Type} [Inhabited α] {d : Kd α} {p : α → Prop} {t e : TypeId} {fuel : Nat} {cs : List Value} {x : DataW H × List MemPlace} (ht : P.underlying t = some (.slice e)) (hc : P.cellsOf e = d.sz)
    (o : ∀ (fuel : Nat) (cs : List Value) (x : DataW H × List MemPlace), DataW.trod enc P W 0 (fun _ => true) true fuel e cs = some x → ∃ y, d.K W y cs ∧ p y)
    (h : DataW.trod enc P W 0 (fun _ => true) true fuel t cs = some x) : ∃ (A : Option Addr) (c : Nat) (l : List α), cs = [.slice A l.length c] ∧ l.length ≤ c ∧ (l.length : Int) ≤ 9223372036854775807 ∧ d.C W A l.length l ∧ ∀ y ∈ l, p y := by
  rcases open_slice ht h with ⟨rfl, _⟩ | ⟨a, len, cap, m, n, D, Pl, rfl, _, hl, hm, hmm, _, hx⟩
  · exact ⟨none, 0, [], rfl, Nat.le_refl _, by simp, ⟨rfl, by simp, fun h => absurd h (by simp)⟩, fun y hy => by cases hy⟩
  · have hlm : len ≤ m := by rw [hmm]; simp; omega
    unfold maxLen at hm
    obtain ⟨Y, hY⟩ := choose_lt (α := α) (n := len) (p := fun i y => ∃ cs', W.cells? 0 (a.add (i * P.cellsOf e)) (P.cellsOf e) = some cs' ∧ d.K W y cs' ∧ p y) (fun i hi => by
      obtain ⟨cs', h1, h2⟩ := hx i (by omega)
      obtain ⟨y, hy, hp⟩ := o _ _ _ h2
      exact ⟨y, cs', h1, hy, hp⟩)
    have hlen : ((List.range len).map Y).length = len := by simp
    refine ⟨some a, cap, (List.range len).map Y, by rw [hlen], by rw [hlen]; exact hl, by rw [hlen]; omega, ⟨rfl, by rw [hlen]; omega, fun _ => ⟨a, rfl, fun j q hj => ?_⟩⟩, fun y hy => ?_⟩
    · obtain ⟨hj1, hj2⟩ := List.getElem?_eq_some_iff.1 hj
      rw [hlen] at hj1
      simp only [List.getElem_map, List.getElem_range] at hj2
      subst hj2
      obtain ⟨cs', h1, h2, _⟩ := hY j hj1
      obtain ⟨_, g1, g2⟩ := World.cells?_some h1
      refine ⟨cs', by rw [g1, hc], h2, fun i u hu => ?_⟩
      have := g2 i (by rw [← g1]; exact (List.getElem?_eq_some_iff.1 hu).1)
      rw [Go.Deep.add_add, hc, hu] at this
      exact this
    · obtain ⟨j, hj, rfl⟩ := List.mem_map.mp hy
      obtain ⟨_, _, _, hp⟩ := hY j (List.mem_range.mp hj)
      exact hp
theorem open_intsR {P : Program} {H : Type} {enc : TypeId × Value → H} {W : World} {k : IntKind} {t e : TypeId} {fuel : Nat} {cs : List Value} {x : DataW H × List MemPlace} (ht : P.underlying t = some (.slice e)) (he : P.underlying e = some (.int k)) (hc : P.cellsOf e = 1) (h : DataW.trod enc P W 0 (fun _ => true) true fuel t cs = some x) :
    ∃ (A : Option Addr) (c : Nat) (l : List Int), cs = [.slice A l.length c] ∧ l.length ≤ c ∧ (l.length : Int) ≤ 9223372036854775807 ∧ (Kd.int k).C W A l.length l ∧ ∀ y ∈ l, (Lit.int k y).wf = true :=
  open_rowP ht hc (fun fuel cs x h => by
    obtain ⟨s, rfl, _, hs⟩ := DataW.trod_int he h
    exact ⟨s, rfl, hs⟩) h
end Go.Proofs.YtldepdaglapdeaaDoor.Pur
end
section
namespace Go.Proofs.YtldepdaglapdeaaDoor.Pur
open Go
variable {H : Type} {enc : TypeId × Value → H}
theorem handed_shaped_and {a : Assume} {C : Checked} {os : Os} {f : FuncId} {fn : Func} {s : ChangeSpec} {conds : List PathCond} {apart fresh handsOn again : Bool} {X : World → Array Value → Prop}
    (hX : ∀ (w w' : World) (args : Array Value), w.heap = w'.heap → X w args → X w' args)
    (own : ownKnob C.prog.godebug = none) (started : os.Started) (noInit : C.prog.inits.idxOf? f = none) (hfn : C.prog.funcs[f]? = some fn)
    (witness : ∃ (w : World) (tape : Tape) (i : Input), w.os = os ∧ (w.forCall tape i).Shaped C.prog ∧ i.vars = [] ∧ Input.okWide C.prog (w.forCall tape i) .any w.heap.size f i ∧
      ((s.pre enc C.prog fn conds apart (w.forCall tape i).memory i.args ∧ X (w.forCall tape i).memory i.args) ∧ sizedMet enc C.prog fn (OpenSpec.ofChange s) apart (w.forCall tape i).memory i.args) ∧ a.holds C.prog (lone (Frame.enter C.prog f i.args .normal) [] (w.forCall tape i)))
    (contract : ∀ (W : World) (base : Nat) (args : Array Value) (ds gs : List (DataW H)) (before : List MemPlace),
      (∀ (j : Nat) t v, fn.params[j]? = some t → args[j]? = some v → Value.okWide C.prog W .any base t v) →
      DataW.Whole enc C.prog fn.params.toList s.vars apart W args.toList ds gs before →
      conds.all (PathCond.test C.prog ⟨fn.params.toList, ds, s.plain.varTypes C.prog, gs⟩) = true →
      (DataW.weightsEach C.prog (fn.params.toList ++ s.plain.varTypes C.prog) (ds ++ gs)).all (· ≤ reachBytes) = true → X W args → W.ShapedOpen C.prog →
      a.holds C.prog (lone (Frame.enter C.prog f args .normal) [] W) →
      Calls C.prog f args W fun e W' => ∃ v, e = .returned v ∧ s.post enc C.prog fn apart fresh handsOn again W args v W') :
    ReturnsInHanded a C os f .any (fun w args => (s.pre enc C.prog fn conds apart w args ∧ X w args) ∧ sizedMet enc C.prog fn (OpenSpec.ofChange s) apart w args) (s.post enc C.prog fn apart fresh handsOn again) := by
  refine returnsInHanded_of_calls own started noInit witness ?_
  intro w tape i _ hsh _ hok hpre hholds
  obtain ⟨_, _, _, fn', hfn', _, _, _, _, hval⟩ := hok
  have e : fn' = fn := Option.some.inj (hfn'.symm.trans hfn)
  subst e
  obtain ⟨⟨⟨ds, gs, before, hw, hc⟩, hx⟩, hz⟩ := hpre
  have hw' := DataW.Whole.of_heap (w' := w.forCall tape i) (by rfl) hw
  refine (contract (w.forCall tape i) w.heap.size i.args ds gs before hval hw' hc (hz.weights hw) (hX _ _ _ (by rfl) hx) hsh hholds).mono fun e W' ⟨v, he, hp⟩ => ?_
  subst he
  exact ChangeSpec.post_blind hp
end Go.Proofs.YtldepdaglapdeaaDoor.Pur
end
section
namespace Go.Proofs.YtldepdaglapdeaaDoor.Pur
open Go.Proofs.YtldepdaglapdeaaDoor.E Go Go.RowKit Go.ChangeShapes
theorem laid_mem {P : Program} {W : World} {n : String} {d : DataW Unit} : ∀ {l : List (String × DataW Unit)} {ps : List MemPlace}, DataW.LaidVars P W l ps → (n, d) ∈ l →
    ∃ g t cs fuel p, P.globalNamed n = some g ∧ (P.globals[g]?).map (·.type) = some t ∧ W.var? P n = some cs ∧ DataW.trod (fun _ => ()) P W 0 (fun _ => true) false fuel t cs.toList = some (d, p)
  | [], _, _, h => by cases h
  | (n', d') :: r, ps, ⟨g, t, cs, fuel, p, q, h1, h2, h3, h4, h5, _⟩, h => by
    rcases List.mem_cons.mp h with e | e
    · cases e
      exact ⟨g, t, cs, fuel, p, h1, h2, h3, h4⟩
    · exact laid_mem h5 e
theorem vars_cons {H : Type} {enc : TypeId × Value → H} {P : Program} {w : World} {sp : Nat → Bool} {n : String} {ns : List String} {gs : List (DataW H)} {ps : List MemPlace} (h : DataW.TrodVars enc P w sp (n :: ns) gs ps) : ∃ g gs' q, gs = g :: gs' ∧ DataW.TrodVars enc P w sp ns gs' q := by
  cases gs with
  | nil => exact h.elim
  | cons g r =>
    obtain ⟨_, _, _, _, _, q, _, _, _, _, hs, _⟩ := h
    exact ⟨g, r, q, rfl, hs⟩
theorem vars_nil {H : Type} {enc : TypeId × Value → H} {P : Program} {w : World} {sp : Nat → Bool} {gs : List (DataW H)} {ps : List MemPlace} (h : DataW.TrodVars enc P w sp [] gs ps) : gs = [] := by
  cases gs with
  | nil => rfl
  | cons _ _ => exact h.elim
theorem laid_vars {P : Program} {l : List (String × DataW Unit)} {W : World} (h : laidMetH P l W) (hp : (l.all fun x => x.2.handleName?.isNone) = true) : ∃ ps, DataW.LaidVars P W l ps := by
  rw [MakeChecks.laidMetH_plain _ _ _ hp] at h
  obtain ⟨ps, h, _⟩ := h
  exact ⟨ps, h⟩
theorem ba_of_list {s : ByteArray} {l : List UInt8} (h : s.data.toList = l) : s = ⟨l.toArray⟩ := by
  obtain ⟨⟨d⟩⟩ := s
  subst h
  rfl
theorem cells_r : Tryd.prog.cellsOf 86 = 2 := by kernel_rfl
theorem cells_r7 : Tryd.prog.cellsOf 87 = 14 := by kernel_rfl
theorem row_read {P : Program} {H : Type} {enc : TypeId × Value → H} {W : World} {base fuel : Nat} {spare : Nat → Bool} {held : Bool} {t : TypeId} {f0 f1 : Field} {cs : List Value} {x : DataW H × List MemPlace} {a b : List UInt8} (ht : P.underlying t = some (.struct #[f0, f1])) (h0 : P.underlying f0.type = some .string) (h1 : P.underlying f1.type = some .string)
    (c0 : P.cellsOf f0.type = 1) (c1 : P.cellsOf f1.type = 1) (ct : P.cellsOf t = 2) (o0 : f0.offset = 0) (o1 : f1.offset = 1) (h : DataW.trod enc P W base spare held fuel t cs = some x) (hx : x.1 = .agg [.lit (.string a), .lit (.string b)]) : cs = [.string ⟨a.toArray⟩, .string ⟨b.toArray⟩] := by
  obtain ⟨y0, y1, n, rfl, hl, e0, e1⟩ := trod_struct2 ht h
  rw [ct] at hl
  rw [c0, o0] at e0
  rw [c1, o1] at e1
  obtain ⟨s0, q0, rfl, _⟩ := DataW.trod_string h0 e0
  obtain ⟨s1, q1, rfl, _⟩ := DataW.trod_string h1 e1
  match cs, hl with
  | [u, v], _ =>
    simp at q0 q1 hx
    rw [q0, q1, ba_of_list hx.1, ba_of_list hx.2]
theorem heap_of_var {P : Program} {W : World} {n : String} {g : Nat} {cs : Array Value} (hg : P.globalNamed n = some g) (h : W.var? P n = some cs) : ∃ t fr, W.heap[g]? = some (.cells cs t fr) := by
  unfold World.var? at h
  rw [hg, Option.bind_some] at h
  split at h
  · rename_i c t fr he
    obtain rfl := Option.some.inj h
    exact ⟨t, fr, he⟩
  · cases h
theorem take2 {α : Type} {l : List α} {i : Nat} {a b : α} (h : (l.drop (i * 2)).take 2 = [a, b]) : l[i * 2]? = some a ∧ l[i * 2 + 1]? = some b := by
  have h0 := congrArg (·[0]?) h
  have h1 := congrArg (·[1]?) h
  simp only [List.getElem?_take, List.getElem?_drop] at h0 h1
  exact ⟨by simpa using h0, by simpa using h1⟩
theorem seven {α : Type} {l : List α} (h : l.length = 7) : ∃ c0 c1 c2 c3 c4 c5 c6, l = [c0, c1, c2, c3, c4, c5, c6] := by
  match l, h with
  | [a, b, c, d, e, f, g], _ => exact ⟨a, b, c, d, e, f, g, rfl⟩
theorem rows_cells {W : World} {l : List (String × DataW Unit)} {ps : List MemPlace} (h : DataW.LaidVars Tryd.prog W l ps) (hm : ("loop.example/neumes/impl.neumeRows", Rows.laid_loop_example_neumes_impl_neumeRows) ∈ l) :
    W.var? Tryd.prog "loop.example/neumes/impl.neumeRows" = some rowsN.toArray := by
  obtain ⟨g, t, cs, fuel, p, hg, ht, hvar, hd⟩ := laid_mem h hm
  obtain rfl := Option.some.inj ((show Tryd.prog.globalNamed "loop.example/neumes/impl.neumeRows" = some 0 by kernel_rfl).symm.trans hg)
  obtain rfl := Option.some.inj ((show (Tryd.prog.globals[0]?).map (·.type) = some 87 by kernel_rfl).symm.trans ht)
  rw [hvar]
  congr 1
  obtain ⟨l⟩ := cs
  obtain ⟨xs, m, _, hx, hl, hn, hi⟩ := DataW.trod_array Tryd.underlying87 hd
  rw [cells_r7] at hl
  have hx1 := (Prod.mk.inj hx).1
  obtain ⟨x0, x1, x2, x3, x4, x5, x6, rfl⟩ := seven hn
  simp only [Rows.laid_loop_example_neumes_impl_neumeRows, List.map_cons, List.map_nil, DataW.agg.injEq, List.cons.injEq, and_true] at hx1
  obtain ⟨y0, y1, y2, y3, y4, y5, y6⟩ := hx1
  have rd : ∀ (i : Nat) (x : DataW Unit × List MemPlace) (a b : List UInt8), i < 7 → [x0, x1, x2, x3, x4, x5, x6][i]? = some x → x.1 = .agg [.lit (.string a), .lit (.string b)] → l[i * 2]? = some (.string ⟨a.toArray⟩) ∧ l[i * 2 + 1]? = some (.string ⟨b.toArray⟩) := by
    intro i x a b h7 hix hxx
    have := hi i h7
    rw [hix, cells_r] at this
    exact take2 (row_read Tryd.underlying86 (by kernel_rfl) (by kernel_rfl) (by kernel_rfl) (by kernel_rfl) (by kernel_rfl) rfl rfl this hxx)
  have z0 := rd 0 x0 _ _ (by decide) rfl y0.symm
  have z1 := rd 1 x1 _ _ (by decide) rfl y1.symm
  have z2 := rd 2 x2 _ _ (by decide) rfl y2.symm
  have z3 := rd 3 x3 _ _ (by decide) rfl y3.symm
  have z4 := rd 4 x4 _ _ (by decide) rfl y4.symm
  have z5 := rd 5 x5 _ _ (by decide) rfl y5.symm
  have z6 := rd 6 x6 _ _ (by decide) rfl y6.symm
  have : l = rowsN := by
    apply List.ext_getElem?
    intro i
    match i with
    | 0 => exact z0.1
    | 1 => exact z0.2
    | 2 => exact z1.1
    | 3 => exact z1.2
    | 4 => exact z2.1
    | 5 => exact z2.2
    | 6 => exact z3.1
    | 7 => exact z3.2
    | 8 => exact z4.1
    | 9 => exact z4.2
    | 10 => exact z5.1
    | 11 => exact z5.2
    | 12 => exact z6.1
    | 13 => exact z6.2
    | i + 14 =>
      have hl' : l.length = 14 := hl
      rw [List.getElem?_eq_none (by omega), List.getElem?_eq_none (by have : rowsN.length = 14 := rfl; omega)]
  rw [this]
theorem gok_rows {W : World} {l : List (String × DataW Unit)} (h : laidMetH Tryd.prog l W) (hp : (l.all fun x => x.2.handleName?.isNone) = true) (hm : ("loop.example/neumes/impl.neumeRows", Rows.laid_loop_example_neumes_impl_neumeRows) ∈ l) : GOk [0] W := by
  obtain ⟨ps, hv⟩ := laid_vars h hp
  intro n hn
  obtain rfl := List.mem_singleton.mp hn
  exact heap_of_var (by kernel_rfl) (rows_cells hv hm)
end Go.Proofs.YtldepdaglapdeaaDoor.Pur
end
section
namespace Go.Proofs.YtldepdaglapdeaaDoor.fnGroups
open Go.ChangeShapes Go.WideShapes Go.ChangeAt Go.RowKit
open Go.ChangeMaps (open_string shut_string)
set_option linter.unusedVariables false
theorem own : ownKnob Tryd.prog.godebug = none := by kernel_rfl
theorem laidOut : laidOutB Tryd.prog = true := by kernel_rfl
set_option maxRecDepth 100000 in
theorem lifted (os : Os) (started : os.Started) (H : Type) (enc : TypeId × Value → H) :
    ReturnsInHanded {} Tryd.checked os 5 .any (fun w args => (Rows.fnGroupsSpec.pre enc Tryd.prog Tryd.f5 Rows.fnGroupsRow.domain false w args ∧ laidMetH Tryd.prog Rows.fnGroupsRow.laid w) ∧ sizedMet enc Tryd.prog Tryd.f5 (OpenSpec.ofChange Rows.fnGroupsSpec) false w args) (Rows.fnGroupsSpec.post enc Tryd.prog Tryd.f5 false true false false) := by
  refine Pur.handed_shaped_and (C := Tryd.checked) (X := fun w _ => laidMetH Tryd.prog Rows.fnGroupsRow.laid w) (fun _ _ _ hh h => h.of_heap hh) own started (by kernel_rfl) Tryd.func5
    (ChangeSpec.witness_shaped (enc := enc) (C := Tryd.checked) (os := os) (X := fun w _ => laidMetH Tryd.prog Rows.fnGroupsRow.laid w) false (World.laidAll Tryd.prog os Rows.fnGroupsRow.laid) #[.slice none 0 0] 8 (World.laidAll_os _ _ _) (World.shaped_of_ZipB (by kernel_rfl) (by kernel_rfl)) (by kernel_rfl) (by kernel_rfl) (by kernel_rfl) (by rw [MakeChecks.laidMetH_plain _ _ _ (by kernel_rfl)]; exact laidMet_laidAll _ (by kernel_rfl) (by kernel_rfl))) ?_
  intro W base args ds gs before hval0 hW hcnd hsz0 hL hSh _
  have hsz : (DataW.weightsEach Tryd.prog (Tryd.f5.params.toList ++ Rows.fnGroupsSpec.plain.varTypes Tryd.prog) (ds ++ gs)).all (· ≤ reachBytes) = true := hsz0
  have hval : ∀ (j : Nat) t v, Tryd.f5.params[j]? = some t → args[j]? = some v → Value.okWide Tryd.prog W .any base t v := hval0
  have hW' := hW
  obtain ⟨p, q, hA0, hV, rfl, hfz, hnd⟩ := hW
  have hA : DataW.TrodAll enc Tryd.prog W 0 (fun _ => true) true Tryd.f5.params.toList args.toList ds p := hA0
  rw [Tryd.params5] at hA hval hsz
  obtain ⟨v0, vs0, d0, ds0, p0, q0, hargs, rfl, rfl, h0, r0⟩ := trodAll_cons hA
  obtain ⟨rfl, rfl, rfl⟩ := trodAll_nil r0
  obtain rfl : args = #[v0] := by cases args; simp_all
  obtain ⟨g0, gs0, vq0, rfl, hV0⟩ := Pur.vars_cons hV
  obtain rfl := Pur.vars_nil hV0
  have k0 := h0
  have lt0 : ∀ x ∈ p0, x.block < W.heap.size := by obtain ⟨m, hm⟩ := k0; exact DataW.trod_lt m _ _ _ hm
  obtain ⟨a0, len0, cap0, rfl⟩ := okWide_slice Tryd.underlying36 (hval 0 36 v0 rfl rfl)
  obtain ⟨fuel0, hf0⟩ := h0
  obtain ⟨A0, c0, l0, hcs0, hle0, hm0, hC0, hx0⟩ := Pur.open_intsR Tryd.underlying36 Tryd.underlying5 (by kernel_rfl) hf0
  simp [Value.cells] at hcs0
  obtain ⟨rfl, rfl, rfl⟩ := hcs0
  clear hA0 hval0 hsz0 hsz
  obtain ⟨k, hk⟩ := Pur.law_groups l0 hm0 hx0
  refine (E.laws_FnGroups.calls k _ _ l0 true W hC0 hle0 (Pur.gok_rows hL (by kernel_rfl) (by first | exact .head _ | exact .tail _ (.head _) | exact .tail _ (.tail _ (.head _)) | exact .tail _ (.tail _ (.tail _ (.head _))) | exact .tail _ (.tail _ (.tail _ (.tail _ (.head _)))) | exact .tail _ (.tail _ (.tail _ (.tail _ (.tail _ (.head _))))))) hk).mono fun e W' ⟨he, bel⟩ => ?_
  subst he
  exact ⟨_, rfl, _, _, _, [], _, _, hW', trodAll_mk1 (shut_bool Tryd.underlying4 _), (trodAll_cons_mk (Below.trod laidOut (by kernel_rfl) (of_decide_eq_true (by kernel_rfl)) k0 bel lt0) trodAll_mk0), (Below.trodVars laidOut bel (by kernel_rfl) hV), bel.frame _, fun h => by cases h⟩
set_option maxRecDepth 100000 in
theorem closed : joinedFacts Tryd.prog 5 Tryd.f5 Rows.fnGroupsSpec Rows.fnGroupsRow = true := by
  have hf : (Rows.fnGroupsRow.lifted == Tryd.prog.liftsFinal) = true := by rw [Head.finE]; kernel_rfl
  have hm : (Tryd.prog.make == some Rows.fnGroupsRow.make) = true := by rw [Head.makeE]; kernel_rfl
  unfold joinedFacts
  repeat' (with_reducible refine Head.and_t ?_ ?_)
  all_goals first | with_reducible exact Head.mayE | with_reducible exact hf | with_reducible exact hm | (as_aux_lemma => kernel_rfl)
theorem over : Rows.fnGroupsRow.holds Tryd.pinned (OpenSpec.ofChange Rows.fnGroupsSpec) :=
  OpenClaim.holds_of_wide 5 Tryd.f5 rfl rfl rfl rfl rfl rfl rfl ⟨rfl, rfl, rfl, rfl, rfl⟩ rfl rfl rfl rfl rfl (by kernel_rfl) Tryd.func5 closed
    (of_decide_eq_true (by kernel_rfl)) (by unfold Func.isWrapper; first | (rw [if_pos (by decide +kernel)]; kernel_rfl) | (rw [if_neg (by decide +kernel)]; exact ⟨rfl, rfl⟩))
    (fun os started H enc _ => lifted os started H enc)
theorem card_ : Rows.FnGroupsCardSaid :=
  Claim7.holds_tied_plain_at .later [] [.data, .data, .pinned, .pinned] true (true, "9c2ca3b281ff8b19e89753c35a89049fb06d3d2b12adf947c3dc278620679448") false
    over (fun _ h => by cases h) (by as_aux_lemma => kernel_rfl) (fun _ h => by cases h) fnGroups_row_tie rfl ⟨rfl, rfl⟩ (Head.mainE.trans (by as_aux_lemma => kernel_rfl)) rfl
    (fun f fn hf hfn => by
      obtain rfl : f = 5 := Option.some.inj ((show Tryd.prog.funcNamed "loop.example/neumes/laws.FnGroups" = some 5 by kernel_rfl).symm.trans hf) |>.symm
      obtain rfl : fn = Tryd.f5 := (Option.some.inj (Tryd.func5.symm.trans hfn)).symm
      exact ⟨by kernel_rfl, fun j t ht => by
        rw [Tryd.params5] at ht
        have hm : t ∈ [36] := by simpa using Array.mem_of_getElem? ht
        have hall : ([36].all fun u => !Tryd.prog.wantsStandIn u) = true := by kernel_rfl
        exact (show Tryd.prog.wantsStandIn t = false by simpa using List.all_eq_true.1 hall t hm)⟩)
    (by kernel_rfl)
theorem proved : Rows.FnGroupsCardSaid := card_
#print axioms proved
end Go.Proofs.YtldepdaglapdeaaDoor.fnGroups
namespace Go.Proofs.YtldepdaglapdeaaDoor
theorem fnGroups_holds : Rows.FnGroupsCardSaid := fnGroups.proved
end Go.Proofs.YtldepdaglapdeaaDoor
end
