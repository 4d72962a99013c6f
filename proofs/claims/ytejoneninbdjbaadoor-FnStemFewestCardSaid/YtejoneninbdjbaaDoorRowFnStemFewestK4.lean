/- Proved: for all arguments the given program's laws.FnStemFewest returns true, and its arguments read afterwards as they read before (the given constant Rows.FnStemFewestCardSaid).
Conditions: none ahead of the given statement; the statement itself begins in a world whose listed package-level variables hold what the program's text lays there, and its card ties them to that text. -/
import Derived.Test.YtejoneninbdjbaaDoorRowFnStemFewestK3
section
namespace Go.Proofs.YtejoneninbdjbaaDoor.Pur
open Go.RowKit Go.Proofs.YtejoneninbdjbaaDoorW.PrintWords Go.Proofs.YtejoneninbdjbaaDoorW.PrintMore Go.Proofs.YtejoneninbdjbaaDoor.E
theorem Few.congr {n : Nat} {s s' : Nat → Nat} {b b' : Nat → Nat → Int} {F : Int} (hb : ∀ j x, j < n → b j x = b' j x) (hs : ∀ k, 0 < k → k < n → s k = s' k) (h : Few n s b F) : Few n s' b' F := by
  have e : ∀ y : Nat → Nat, cost n s b y = cost n s' b' y := by
    intro y
    unfold cost
    rw [sumTo_congr n (fun j hj => hb j (y j) hj)]
    congr 1
    refine sumTo_congr n (fun k hk => ?_)
    by_cases h0 : 0 < k
    · rw [if_pos h0, if_pos h0, hs k h0 hk]
    · rw [if_neg h0, if_neg h0]
  refine ⟨fun y hy => by rw [← e]; exact h.1 y hy, ?_⟩
  obtain ⟨y, hy, e'⟩ := h.2
  exact ⟨y, hy, by rw [← e]; exact e'⟩
theorem rdS_app {l : List ByteArray} {g : ByteArray} {j : Nat} (h : j < l.length) : rdOf ByteArray.empty (l ++ [g]) (j : Int) = rdOf ByteArray.empty l (j : Int) := by
  unfold rdOf
  rw [toNat_nat, List.getD_eq_getElem?_getD, List.getD_eq_getElem?_getD, List.getElem?_append_left h]
theorem rdS_last (l : List ByteArray) (g : ByteArray) : rdOf ByteArray.empty (l ++ [g]) (l.length : Int) = g := by
  unfold rdOf
  rw [toNat_nat, List.getD_eq_getElem?_getD, List.getElem?_append_right (Nat.le_refl _), Nat.sub_self]
  rfl
theorem rdI_app {l : List Int} {g : Int} {j : Nat} (h : j < l.length) : rd (l ++ [g]) (j : Int) = rd l (j : Int) := by
  unfold rd
  rw [toNat_nat, List.getD_eq_getElem?_getD, List.getD_eq_getElem?_getD, List.getElem?_append_left h]
theorem rdI_last (l : List Int) (g : Int) : rd (l ++ [g]) (l.length : Int) = g := by
  unfold rd
  rw [toNat_nat, List.getD_eq_getElem?_getD, List.getElem?_append_right (Nat.le_refl _), Nat.sub_self]
  rfl
theorem rdS_take {l : List ByteArray} {m j : Nat} (h : j < m) : rdOf ByteArray.empty (l.take m) (j : Int) = rdOf ByteArray.empty l (j : Int) := by
  unfold rdOf
  rw [toNat_nat, List.getD_eq_getElem?_getD, List.getD_eq_getElem?_getD, List.getElem?_take_of_lt h]
theorem rdI_take {l : List Int} {m j : Nat} (h : j < m) : rd (l.take m) (j : Int) = rd l (j : Int) := by
  unfold rd
  rw [toNat_nat, List.getD_eq_getElem?_getD, List.getD_eq_getElem?_getD, List.getElem?_take_of_lt h]
theorem goB_more {N : Nat} {g : ByteArray} (hg : g.size = N) (hl : lostB g = true) : ∀ (l : List ByteArray) (c : Int), (goB N l c).2 = true → goB N (l ++ [g]) c = ((goB N l c).1 + 1, true)
  | [], c, _ => by
    show (if g.size = N ∧ (readB g = true ∨ lostB g = true) then goB N [] (if lostB g = true then c + 1 else c) else (0, false)) = _
    rw [if_pos ⟨hg, .inr hl⟩, if_pos hl]
    rfl
  | t :: ts, c, h => by
    rw [goB] at h
    by_cases k : t.size = N ∧ (readB t = true ∨ lostB t = true)
    · rw [if_pos k] at h
      rw [List.cons_append, goB, if_pos k, goB_more hg hl ts _ h, goB, if_pos k]
    · rw [if_neg k] at h
      exact absurd h (by decide)
theorem books_if {l : List ByteArray} (h : (booksOf l).2 = true) : booksOf l = goB (l.getD 0 ByteArray.empty).size l 0 ∧ (1 ≤ l.length ∧ l.length ≤ 6 ∧ 1 ≤ (l.getD 0 ByteArray.empty).size ∧ (l.getD 0 ByteArray.empty).size ≤ 8) := by
  unfold booksOf at h ⊢
  by_cases g : 1 ≤ l.length ∧ l.length ≤ 6 ∧ 1 ≤ (l.getD 0 ByteArray.empty).size ∧ (l.getD 0 ByteArray.empty).size ≤ 8
  · rw [if_pos g]; exact ⟨rfl, g⟩
  · rw [if_neg g] at h
    exact absurd h (by decide)
theorem vs_more {l : List ByteArray} {st : List Int} (V : VS l st) {g : ByteArray} (hg : g.size = (rdOf ByteArray.empty l 0).size) (hl : lostB g = true) (h5 : l.length < 6) : VS (l ++ [g]) (st ++ [(l.length : Int) - 1]) := by
  obtain ⟨v1, v2, v3, v4, v5⟩ := V
  obtain ⟨e, a⟩ := books_if v1
  have h0 : (l ++ [g]).getD 0 ByteArray.empty = l.getD 0 ByteArray.empty := rdS_app (j := 0) (by omega)
  have eb : booksOf (l ++ [g]) = ((booksOf l).1 + 1, true) := by
    have v1' := v1
    rw [e] at v1'
    rw [e, ← goB_more (show g.size = (l.getD 0 ByteArray.empty).size from hg) hl l 0 v1', ← h0]
    unfold booksOf
    rw [if_pos]
    rw [h0, List.length_append]
    exact ⟨by omega, by show l.length + 1 ≤ 6; omega, a.2.2.1, a.2.2.2⟩
  refine ⟨by rw [eb], by rw [eb, List.length_append]; show (booksOf l).1 + 1 ≠ ((l.length + 1 : Nat) : Int); omega, by rw [List.length_append, List.length_append]; show st.length + 1 = l.length + 1; omega, ?_, fun j h1 h2 => ?_⟩
  · have := rdI_app (l := st) (g := (l.length : Int) - 1) (j := 0) (by omega)
    rw [show ((0 : Nat) : Int) = 0 from rfl] at this
    rw [this]; exact v4
  · have h2 : j < st.length + 1 := by rw [List.length_append] at h2; exact h2
    by_cases ej : j = st.length
    · subst ej
      rw [rdI_last]
      omega
    · rw [rdI_app (by omega)]
      exact v5 j h1 (by omega)
theorem ban_same {l l' : List ByteArray} {p j x : Nat} (h : rdOf ByteArray.empty l (j : Int) = rdOf ByteArray.empty l' (j : Int)) : banP l p j x = banP l' p j x := by unfold banP; rw [h]
theorem s_same {st st' : List Int} {k : Nat} (h : rd st (k : Int) = rd st' (k : Int)) : sOf st k = sOf st' k := by unfold sOf; rw [h]
theorem ban_lost {l : List ByteArray} {p j x : Nat} (h1 : 1 ≤ (rdOf ByteArray.empty l (j : Int)).size) (h8 : (rdOf ByteArray.empty l (j : Int)).size ≤ 8) (h : lostB (rdOf ByteArray.empty l (j : Int)) = true) : banP l p j x = 0 := by
  unfold banP banQ
  rw [(lostQ_is h1 h8).2, if_pos h]
theorem few_cut {l l' : List ByteArray} {st st' : List Int} (V : VS l st) (V' : VS l' st') (h : l'.length = l.length + 1) (hl : ∀ j, j < l.length → rdOf ByteArray.empty l' (j : Int) = rdOf ByteArray.empty l (j : Int)) (hs : ∀ j, j < l.length → rd st' (j : Int) = rd st (j : Int)) (p : Nat) : fFew l st p ≤ fFew l' st' p := by
  have a := K_few (stemK V) p
  have b := K_few (stemK V') p
  rw [h] at b
  exact Few.cut b (Few.congr (fun j x hj => ban_same (hl j hj).symm) (fun k _ hk => s_same (hs k hk).symm) a) (fun x => (ban_bd l' p l.length x).1)
theorem fsum_cut {l l' : List ByteArray} {st st' : List Int} (V : VS l st) (V' : VS l' st') (h : l'.length = l.length + 1) (hl : ∀ j, j < l.length → rdOf ByteArray.empty l' (j : Int) = rdOf ByteArray.empty l (j : Int)) (hs : ∀ j, j < l.length → rd st' (j : Int) = rd st (j : Int)) : fSum l st ≤ fSum l' st' := by
  have K := stemK V
  have n1 := K.n1
  have e0 : rdOf ByteArray.empty l' 0 = rdOf ByteArray.empty l 0 := hl 0 (by omega)
  unfold fSum
  rw [e0]
  exact sumTo_le _ (fun p _ => few_cut V V' h hl hs p)
theorem fsum_more {l : List ByteArray} {st : List Int} (V : VS l st) {g : ByteArray} (hg : g.size = (rdOf ByteArray.empty l 0).size) (hlo : lostB g = true) (h5 : l.length < 6) : fSum (l ++ [g]) (st ++ [(l.length : Int) - 1]) = fSum l st := by
  have V' := vs_more V hg hlo h5
  have K := stemK V
  have K' := stemK V'
  have n1 := K.n1
  have hst := K.stl
  have len : (l ++ [g]).length = l.length + 1 := by rw [List.length_append]; rfl
  have hl : ∀ j, j < l.length → rdOf ByteArray.empty (l ++ [g]) (j : Int) = rdOf ByteArray.empty l (j : Int) := fun j hj => rdS_app hj
  have hs : ∀ j, j < l.length → rd (st ++ [(l.length : Int) - 1]) (j : Int) = rd st (j : Int) := fun j hj => rdI_app (by omega)
  have e0 : rdOf ByteArray.empty (l ++ [g]) 0 = rdOf ByteArray.empty l 0 := hl 0 (by omega)
  have a := fsum_cut V V' len hl hs
  have b : fSum (l ++ [g]) (st ++ [(l.length : Int) - 1]) ≤ fSum l st := by
    unfold fSum
    rw [e0]
    refine sumTo_le _ (fun p hp => ?_)
    have k := K_few K p
    have k' := K_few K' p
    rw [len] at k'
    have par' := K'.par
    have p1 := K.p1
    have p8 := K.p8
    refine Few.more (Few.congr (fun j x hj => ban_same (hl j hj).symm) (fun q _ hq => s_same (hs q hq).symm) k) k' (fun q h0 h1 => by have := par' q h0 (by omega); unfold sOf; omega) (fun x => ban_lost ?_ ?_ ?_) (by omega)
    · rw [rdS_last]; omega
    · rw [rdS_last]; omega
    · rw [rdS_last]; exact hlo
  omega
def gone : Nat → ByteArray
  | 0 => ⟨#[]⟩
  | p + 1 => gone p ++ ⟨#[63]⟩
theorem gone_len : ∀ p, (gone p).size = p
  | 0 => rfl
  | p + 1 => by rw [gone, ByteArray.size_append, gone_len p]; rfl
theorem gone_lost : ∀ p, lostB (gone p) = true
  | 0 => rfl
  | p + 1 => by
    have := gone_lost p
    unfold lostB at this ⊢
    rw [gone, app_list, List.all_append, this]
    rfl
theorem take_len {α : Type} {l : List α} {m : Nat} (h : m ≤ l.length) : (l.take m).length = m := by rw [List.length_take]; omega
section
variable {l : List ByteArray} {st : List Int} (V : VS l st) (hs' : ∀ t ∈ l, t.size ≤ 9223372036854775806) (hst : st.length ≤ 1048576)
include V hs' hst
omit hst in
theorem few_last (Q : Bool → Prop) (hQ : Q true) : EvP (fun k => if (l.length : Int) = 1 then (some true) else (if 0 ≤ (wrap64 ((l.length : Int) - 1)) then (if (wrap64 ((l.length : Int) - 1)) ≤ (l.length : Int) then (if (wrap64 ((l.length : Int) - 1)) ≤ (st.length : Int) then ((impl_StemFewest.f k (l.take ((wrap64 ((l.length : Int) - 1)) : Int).toNat) (st.take ((wrap64 ((l.length : Int) - 1)) : Int).toNat)).bind fun t725 => (some (decide (t725 ≤ fSum l st)))) else (none)) else (none)) else (none))) Q := by
  have K := stemK V
  have n1 := K.n1
  have n6 := K.n6
  have hstl := K.stl
  have e1 : Hd (wrap64 ((l.length : Int) - 1) = (l.length : Int) - 1) := ⟨w64 (by omega) (by omega)⟩
  rw [e1.out]
  refine EvP.ite (fun _ => EvP.ret hQ) (fun h => ?_)
  refine EvP.yes (by omega) (EvP.yes (by omega) (EvP.yes (by omega) ?_))
  have et : ((l.length : Int) - 1).toNat = l.length - 1 := by omega
  rw [et]
  refine EvP.bind (impl_fewest _ _ (fun t ht => hs' t (List.mem_of_mem_take ht)) (by rw [List.length_take]; omega)) (fun c hc => EvP.ret ?_)
  have : c ≤ fSum l st := by
    by_cases V2 : VS (l.take (l.length - 1)) (st.take (l.length - 1))
    · rw [hc.1 V2]
      have tl : (l.take (l.length - 1)).length = l.length - 1 := take_len (by omega)
      exact fsum_cut V2 V (by omega) (fun j hj => (rdS_take (by omega)).symm) (fun j hj => (rdI_take (by omega)).symm)
    · rw [hc.2 V2]
      have := K_bd K
      omega
  rw [decide_eq_true this]
  exact hQ
theorem few_gone (h5 : l.length < 6) : ∀ (d p : Nat), p + d = (rdOf ByteArray.empty l 0).size → EvP (fun k => laws_FnStemFewest.l0 k l st (fSum l st) (l.length : Int) (gone p) (p : Int)) (· = true) := by
  have K := stemK V
  have n1 := K.n1
  have n6 := K.n6
  have p8 := K.p8
  have hstl := K.stl
  intro d
  induction d with
  | zero =>
    intro p hp
    have e1 : Hd (wrap64 ((l.length : Int) - 1) = (l.length : Int) - 1) := ⟨w64 (by omega) (by omega)⟩
    have hg : (gone p).size = (rdOf ByteArray.empty l 0).size := by rw [gone_len]; omega
    refine EvP.succ ?_
    simp only [laws_FnStemFewest.l0]
    refine EvP.yes (by omega) (EvP.no (by omega) ?_)
    refine EvP.bind (P := (· = [])) (EvP.con rfl rfl) (fun y hy => ?_)
    subst hy
    refine EvP.yes (by simp only [List.length_nil]; omega) ?_
    refine EvP.bind (P := (· = l)) (EvP.con (by rw [List.nil_append]) rfl) (fun y hy => ?_)
    subst hy
    refine EvP.yes (by omega) ?_
    refine EvP.bind (P := (· = [])) (EvP.con rfl rfl) (fun y hy => ?_)
    subst hy
    refine EvP.yes (by simp only [List.length_nil]; omega) ?_
    refine EvP.bind (P := (· = st)) (EvP.con (by rw [List.nil_append]) rfl) (fun y hy => ?_)
    subst hy
    refine EvP.yes (by omega) ?_
    have few := few_last V hs' (· = true) rfl
    rw [e1.out] at few ⊢
    refine EvP.bind (impl_fewest _ _ (fun t ht => ?_) (by rw [List.length_append]; show _ + 1 ≤ _; omega)) (fun c hc => ?_)
    · rcases List.mem_append.mp ht with h | h
      · exact hs' t h
      · rw [List.mem_singleton.mp h]; omega
    rw [hc.1 (vs_more V hg (gone_lost p) h5), fsum_more V hg (gone_lost p) h5]
    exact EvP.yes rfl few
  | succ d ih =>
    intro p hp
    have e2 : Hd (wrap64 ((p : Int) + 1) = ((p + 1 : Nat) : Int)) := ⟨w64 (by omega) (by omega)⟩
    refine EvP.succ ?_
    simp only [laws_FnStemFewest.l0]
    refine EvP.yes (by omega) (EvP.yes (by omega) (EvP.yes (by rw [gone_len]; omega) ?_))
    rw [e2.out]
    exact ih (p + 1) (by omega)
end
theorem law_fewest (l0 : List Int) (_ : (l0.length : Int) ≤ 9223372036854775807) (hw : ∀ x ∈ l0, (Lit.int .u8 x).wf = true) : ∃ k, laws_FnStemFewest.f k l0 = some true := by
  refine EvP.rounds (?_ : EvP (fun k => laws_FnStemFewest.f k l0) (· = true))
  unfold laws_FnStemFewest.f
  refine EvP.ite (fun _ => EvP.ret rfl) (fun h0 => ?_)
  refine EvP.bind (P := fun r => r.1.length ≤ 5 ∧ (∀ t ∈ r.1, t.size ≤ 5) ∧ r.2.length ≤ 5) ?_ (fun r hr => ?_)
  · unfold spec_DrawStemFewest.f
    refine EvP.bind (open_code l0 hw) (fun r hr => ?_)
    refine EvP.bind (drawn_stem hr.1 true r.2 (by omega)) (fun b hb => ?_)
    obtain ⟨b1, b2, b3, b4, b5⟩ := hb
    exact EvP.ret ⟨b1, b2, b3⟩
  obtain ⟨l, st⟩ := r
  obtain ⟨r1, r2, r3⟩ := hr
  dsimp only at r1 r2 r3 ⊢
  have hs' : ∀ t ∈ l, t.size ≤ 9223372036854775806 := fun t ht => Nat.le_trans (r2 t ht) (by omega)
  have hst : st.length ≤ 1048576 := by omega
  refine EvP.bind (impl_fewest l st hs' hst) (fun a ha => ?_)
  refine EvP.bind (spec_fewest l st hs' hst) (fun b hb => ?_)
  obtain rfl := ha.same hb
  refine EvP.yes rfl ?_
  refine EvP.succ ?_
  simp only [laws_FnStemFewest.j0]
  by_cases V : VS l st
  · have ea := ha.1 V
    have bd := K_bd (stemK V)
    refine EvP.no (by rw [decide_eq_true_iff]; omega) ?_
    rw [ea]
    refine EvP.ite (fun g => ?_) (fun g => ?_)
    · exact few_gone V hs' hst (by omega) (rdOf ByteArray.empty l 0).size 0 (by omega)
    · exact few_last V hs' _ rfl
  · have ea := ha.2 V
    refine EvP.yes (by rw [decide_eq_true_iff]; omega) (EvP.ret ?_)
    exact beq_self_eq_true _
end Go.Proofs.YtejoneninbdjbaaDoor.Pur
end
section
namespace Go.Proofs.YtejoneninbdjbaaDoor.Head
set_option maxRecDepth 100000
theorem and_t {a b : Bool} (h : a = true) (k : b = true) : (a && b) = true := by rw [h, k]; rfl
theorem mayEnter_of {P : Program} {l : List String} {W rest : List (List Char)} (h : behindMainWord (wordsSigns P.initOrder.toList) = W) (hc : ∃ c r, W = c :: r ∧ (c == "gc".toList || c == "spec".toList) = false ∧ (c == "carried".toList) = false) (hs : stripLifts liftWords W = (l, "cut".toList :: rest))
    (hl : (l.contains "finals" || !P.laysLater) = true) (hb : (l.contains "reflectrows" || !P.bearsReflect) = true) (hr : (l.contains "reflectrows" || !l.contains "leanrows") = true) (hd : P.doorFits l = true) : P.mayEnter = true := by
  obtain ⟨c, r, rfl, h1, h2⟩ := hc
  unfold Program.mayEnter
  rw [h]
  dsimp only
  rw [hs, hl, hb, hr, hd, h1, h2]
  simp
theorem headLifts_of {P : Program} {l : List String} {W rest : List (List Char)} (h : behindMainWord (wordsSigns P.initOrder.toList) = W) (hs : stripLifts liftWords W = (l, "cut".toList :: rest)) : P.headLifts = l := by
  unfold Program.headLifts
  rw [h]
  dsimp only
  rw [hs]
  simp
theorem liftsFinal_of {P : Program} {l : List String} {W rest : List (List Char)} (h : behindMainWord (wordsSigns P.initOrder.toList) = W) (hc : ∃ c r, W = c :: r ∧ (c == "gc".toList || c == "spec".toList) = false ∧ (c == "carried".toList) = false) (hs : stripLifts liftWords W = (l, "cut".toList :: rest)) : P.liftsFinal = l.contains "finals" := by
  unfold Program.liftsFinal
  rw [headLifts_of h hs, h]
  obtain ⟨c, r, rfl, h1, h2⟩ := hc
  have h3 : ((c :: r).head? == some "carried".toList) = false := by
    rw [beq_eq_false_iff_ne] at h2 ⊢
    exact fun e => h2 (Option.some.inj e)
  dsimp only
  rw [h3, Bool.false_and, Bool.false_or]
theorem make_of {P : Program} {rest : List (List Char)} (h : behindMainWord (wordsSigns P.initOrder.toList) = "cut".toList :: rest) : P.make = some .cut := by
  unfold Program.make
  rw [h]
  dsimp only
  rw [if_neg (by decide), if_pos (by simp)]
theorem mainIs_of {P : Program} {s : List Char} {rest : List (List Char)} (h : wordsSigns P.initOrder.toList = "harness".toList :: s :: rest) (hs : isSumSigns s = true) : P.mainIs = some (true, s) := by
  unfold Program.mainIs
  rw [h]
  dsimp only
  rw [hs]
  simp
def io : List Nat := [104, 97, 114, 110, 101, 115, 115, 32, 97, 49, 55, 53, 100, 55, 49, 55, 50, 99, 49, 55, 51, 50, 52, 49, 97, 52, 51, 56, 99, 53, 50, 99, 97, 100, 56, 102, 50, 99, 98, 98, 56, 52, 101, 54, 98, 50, 52, 101, 51, 97, 99, 54, 56, 49, 102, 49, 99, 55, 51, 51, 99, 98, 98, 57, 52, 51, 98, 49, 102, 48, 55, 99, 32, 99, 117, 116, 32, 97, 116, 32, 108, 111, 111, 112, 46, 101, 120, 97, 109, 112, 108, 101, 47, 110, 101, 117, 109, 101, 115, 47, 108, 97, 119, 115, 46, 70, 110, 69, 120, 97, 99, 116, 66, 111, 111, 107, 115, 86, 97, 108, 105, 100, 32, 108, 111, 111, 112, 46, 101, 120, 97, 109, 112, 108, 101, 47, 110, 101, 117, 109, 101, 115, 47, 108, 97, 119, 115, 46, 70, 110, 69, 120, 97, 99, 116, 66, 111, 111, 107, 115, 70, 97, 114, 32, 108, 111, 111, 112, 46, 101, 120, 97, 109, 112, 108, 101, 47, 110, 101, 117, 109, 101, 115, 47, 108, 97, 119, 115, 46, 70, 110, 69, 120, 97, 99, 116, 83, 116, 101, 109, 86, 97, 108, 105, 100, 32, 108, 111, 111, 112, 46, 101, 120, 97, 109, 112, 108, 101, 47, 110, 101, 117, 109, 101, 115, 47, 108, 97, 119, 115, 46, 70, 110, 69, 120, 97, 99, 116, 66, 111, 111, 107, 115, 67, 111, 109, 109, 111, 110, 32, 108, 111, 111, 112, 46, 101, 120, 97, 109, 112, 108, 101, 47, 110, 101, 117, 109, 101, 115, 47, 108, 97, 119, 115, 46, 70, 110, 66, 111, 111, 107, 115, 70, 97, 114, 32, 108, 111, 111, 112, 46, 101, 120, 97, 109, 112, 108, 101, 47, 110, 101, 117, 109, 101, 115, 47, 108, 97, 119, 115, 46, 70, 110, 69, 120, 97, 99, 116, 83, 116, 101, 109, 68, 101, 112, 116, 104, 32, 108, 111, 111, 112, 46, 101, 120, 97, 109, 112, 108, 101, 47, 110, 101, 117, 109, 101, 115, 47, 108, 97, 119, 115, 46, 70, 110, 66, 111, 111, 107, 115, 67, 111, 109, 109, 111, 110, 32, 108, 111, 111, 112, 46, 101, 120, 97, 109, 112, 108, 101, 47, 110, 101, 117, 109, 101, 115, 47, 108, 97, 119, 115, 46, 70, 110, 69, 120, 97, 99, 116, 83, 116, 101, 109, 67, 104, 97, 110, 103, 101, 115, 32, 108, 111, 111, 112, 46, 101, 120, 97, 109, 112, 108, 101, 47, 110, 101, 117, 109, 101, 115, 47, 108, 97, 119, 115, 46, 70, 110, 69, 120, 97, 99, 116, 83, 116, 101, 109, 77, 111, 118, 101, 32, 108, 111, 111, 112, 46, 101, 120, 97, 109, 112, 108, 101, 47, 110, 101, 117, 109, 101, 115, 47, 108, 97, 119, 115, 46, 70, 110, 69, 120, 97, 99, 116, 83, 116, 101, 109, 66, 101, 115, 116, 32, 108, 111, 111, 112, 46, 101, 120, 97, 109, 112, 108, 101, 47, 110, 101, 117, 109, 101, 115, 47, 108, 97, 119, 115, 46, 70, 110, 83, 116, 101, 109, 68, 101, 112, 116, 104, 32, 108, 111, 111, 112, 46, 101, 120, 97, 109, 112, 108, 101, 47, 110, 101, 117, 109, 101, 115, 47, 108, 97, 119, 115, 46, 70, 110, 83, 116, 101, 109, 66, 101, 115, 116, 32, 108, 111, 111, 112, 46, 101, 120, 97, 109, 112, 108, 101, 47, 110, 101, 117, 109, 101, 115, 47, 108, 97, 119, 115, 46, 70, 110, 69, 120, 97, 99, 116, 83, 116, 101, 109, 70, 101, 119, 101, 115, 116, 32, 108, 111, 111, 112, 46, 101, 120, 97, 109, 112, 108, 101, 47, 110, 101, 117, 109, 101, 115, 47, 108, 97, 119, 115, 46, 70, 110, 83, 116, 101, 109, 70, 101, 119, 101, 115, 116, 32, 108, 111, 111, 112, 46, 101, 120, 97, 109, 112, 108, 101, 47, 110, 101, 117, 109, 101, 115, 47, 108, 97, 119, 115, 46, 70, 110, 69, 120, 97, 99, 116, 83, 116, 101, 109, 70, 105, 108, 108, 32, 108, 111, 111, 112, 46, 101, 120, 97, 109, 112, 108, 101, 47, 110, 101, 117, 109, 101, 115, 47, 108, 97, 119, 115, 46, 70, 110, 83, 116, 101, 109, 77, 111, 118, 101, 32, 108, 111, 111, 112, 46, 101, 120, 97, 109, 112, 108, 101, 47, 110, 101, 117, 109, 101, 115, 47, 108, 97, 119, 115, 46, 70, 110, 83, 116, 101, 109, 76, 111, 115, 116, 32, 108, 111, 111, 112, 46, 101, 120, 97, 109, 112, 108, 101, 47, 110, 101, 117, 109, 101, 115, 47, 108, 97, 119, 115, 46, 70, 110, 83, 116, 101, 109, 67, 104, 97, 110, 103, 101, 115]
def ws : List (List Nat) := [[104, 97, 114, 110, 101, 115, 115], [97, 49, 55, 53, 100, 55, 49, 55, 50, 99, 49, 55, 51, 50, 52, 49, 97, 52, 51, 56, 99, 53, 50, 99, 97, 100, 56, 102, 50, 99, 98, 98, 56, 52, 101, 54, 98, 50, 52, 101, 51, 97, 99, 54, 56, 49, 102, 49, 99, 55, 51, 51, 99, 98, 98, 57, 52, 51, 98, 49, 102, 48, 55, 99], [99, 117, 116], [97, 116], [108, 111, 111, 112, 46, 101, 120, 97, 109, 112, 108, 101, 47, 110, 101, 117, 109, 101, 115, 47, 108, 97, 119, 115, 46, 70, 110, 69, 120, 97, 99, 116, 66, 111, 111, 107, 115, 86, 97, 108, 105, 100], [108, 111, 111, 112, 46, 101, 120, 97, 109, 112, 108, 101, 47, 110, 101, 117, 109, 101, 115, 47, 108, 97, 119, 115, 46, 70, 110, 69, 120, 97, 99, 116, 66, 111, 111, 107, 115, 70, 97, 114], [108, 111, 111, 112, 46, 101, 120, 97, 109, 112, 108, 101, 47, 110, 101, 117, 109, 101, 115, 47, 108, 97, 119, 115, 46, 70, 110, 69, 120, 97, 99, 116, 83, 116, 101, 109, 86, 97, 108, 105, 100], [108, 111, 111, 112, 46, 101, 120, 97, 109, 112, 108, 101, 47, 110, 101, 117, 109, 101, 115, 47, 108, 97, 119, 115, 46, 70, 110, 69, 120, 97, 99, 116, 66, 111, 111, 107, 115, 67, 111, 109, 109, 111, 110], [108, 111, 111, 112, 46, 101, 120, 97, 109, 112, 108, 101, 47, 110, 101, 117, 109, 101, 115, 47, 108, 97, 119, 115, 46, 70, 110, 66, 111, 111, 107, 115, 70, 97, 114], [108, 111, 111, 112, 46, 101, 120, 97, 109, 112, 108, 101, 47, 110, 101, 117, 109, 101, 115, 47, 108, 97, 119, 115, 46, 70, 110, 69, 120, 97, 99, 116, 83, 116, 101, 109, 68, 101, 112, 116, 104], [108, 111, 111, 112, 46, 101, 120, 97, 109, 112, 108, 101, 47, 110, 101, 117, 109, 101, 115, 47, 108, 97, 119, 115, 46, 70, 110, 66, 111, 111, 107, 115, 67, 111, 109, 109, 111, 110], [108, 111, 111, 112, 46, 101, 120, 97, 109, 112, 108, 101, 47, 110, 101, 117, 109, 101, 115, 47, 108, 97, 119, 115, 46, 70, 110, 69, 120, 97, 99, 116, 83, 116, 101, 109, 67, 104, 97, 110, 103, 101, 115], [108, 111, 111, 112, 46, 101, 120, 97, 109, 112, 108, 101, 47, 110, 101, 117, 109, 101, 115, 47, 108, 97, 119, 115, 46, 70, 110, 69, 120, 97, 99, 116, 83, 116, 101, 109, 77, 111, 118, 101], [108, 111, 111, 112, 46, 101, 120, 97, 109, 112, 108, 101, 47, 110, 101, 117, 109, 101, 115, 47, 108, 97, 119, 115, 46, 70, 110, 69, 120, 97, 99, 116, 83, 116, 101, 109, 66, 101, 115, 116], [108, 111, 111, 112, 46, 101, 120, 97, 109, 112, 108, 101, 47, 110, 101, 117, 109, 101, 115, 47, 108, 97, 119, 115, 46, 70, 110, 83, 116, 101, 109, 68, 101, 112, 116, 104], [108, 111, 111, 112, 46, 101, 120, 97, 109, 112, 108, 101, 47, 110, 101, 117, 109, 101, 115, 47, 108, 97, 119, 115, 46, 70, 110, 83, 116, 101, 109, 66, 101, 115, 116], [108, 111, 111, 112, 46, 101, 120, 97, 109, 112, 108, 101, 47, 110, 101, 117, 109, 101, 115, 47, 108, 97, 119, 115, 46, 70, 110, 69, 120, 97, 99, 116, 83, 116, 101, 109, 70, 101, 119, 101, 115, 116], [108, 111, 111, 112, 46, 101, 120, 97, 109, 112, 108, 101, 47, 110, 101, 117, 109, 101, 115, 47, 108, 97, 119, 115, 46, 70, 110, 83, 116, 101, 109, 70, 101, 119, 101, 115, 116], [108, 111, 111, 112, 46, 101, 120, 97, 109, 112, 108, 101, 47, 110, 101, 117, 109, 101, 115, 47, 108, 97, 119, 115, 46, 70, 110, 69, 120, 97, 99, 116, 83, 116, 101, 109, 70, 105, 108, 108], [108, 111, 111, 112, 46, 101, 120, 97, 109, 112, 108, 101, 47, 110, 101, 117, 109, 101, 115, 47, 108, 97, 119, 115, 46, 70, 110, 83, 116, 101, 109, 77, 111, 118, 101], [108, 111, 111, 112, 46, 101, 120, 97, 109, 112, 108, 101, 47, 110, 101, 117, 109, 101, 115, 47, 108, 97, 119, 115, 46, 70, 110, 83, 116, 101, 109, 76, 111, 115, 116], [108, 111, 111, 112, 46, 101, 120, 97, 109, 112, 108, 101, 47, 110, 101, 117, 109, 101, 115, 47, 108, 97, 119, 115, 46, 70, 110, 83, 116, 101, 109, 67, 104, 97, 110, 103, 101, 115]]
def ch (w : List Nat) : List Char := w.map Char.ofNat
theorem io_is : Tryd.prog.initOrder = String.ofList (ch io) := by kernel_rfl
theorem io_ws : wordsSigns (ch io) = ws.map ch := by kernel_rfl
theorem io_all : wordsSigns Tryd.prog.initOrder.toList = ws.map ch := by rw [io_is, String.toList_ofList, io_ws]
theorem be : behindMainWord (ws.map ch) = (ws.drop 2).map ch := by kernel_rfl
theorem io_be : behindMainWord (wordsSigns Tryd.prog.initOrder.toList) = (ws.drop 2).map ch := by rw [io_all, be]
theorem first : ∃ c r, (ws.drop 2).map ch = c :: r ∧ (c == "gc".toList || c == "spec".toList) = false ∧ (c == "carried".toList) = false := ⟨ch (ws.getD 2 []), (ws.drop 3).map ch, by kernel_rfl, by kernel_rfl, by kernel_rfl⟩
theorem st : stripLifts liftWords ((ws.drop 2).map ch) = ([], "cut".toList :: ((ws.drop 3).map ch)) := by kernel_rfl
theorem ll : ([].contains "finals" || !Tryd.prog.laysLater) = true := by kernel_rfl
theorem br : ([].contains "reflectrows" || !Tryd.prog.bearsReflect) = true := by kernel_rfl
theorem rr : ([].contains "reflectrows" || ![].contains "leanrows") = true := by kernel_rfl
theorem df : Tryd.prog.doorFits [] = true := by kernel_rfl
theorem mayE : Tryd.prog.mayEnter = true := mayEnter_of io_be first st ll br rr df
theorem finE : Tryd.prog.liftsFinal = [].contains "finals" := liftsFinal_of io_be first st
theorem mainE : Tryd.prog.mainIs = some (true, ch [97, 49, 55, 53, 100, 55, 49, 55, 50, 99, 49, 55, 51, 50, 52, 49, 97, 52, 51, 56, 99, 53, 50, 99, 97, 100, 56, 102, 50, 99, 98, 98, 56, 52, 101, 54, 98, 50, 52, 101, 51, 97, 99, 54, 56, 49, 102, 49, 99, 55, 51, 51, 99, 98, 98, 57, 52, 51, 98, 49, 102, 48, 55, 99]) := mainIs_of (rest := (ws.drop 2).map ch) (io_all.trans (by kernel_rfl)) (by kernel_rfl)
theorem makeE : Tryd.prog.make = some .cut := make_of (io_be.trans (by kernel_rfl : (ws.drop 2).map ch = "cut".toList :: ((ws.drop 3).map ch)))
end Go.Proofs.YtejoneninbdjbaaDoor.Head
end
section
namespace Go.Proofs.YtejoneninbdjbaaDoor.Pur
open Go.RowKit Go.ChangeShapes Go.Deep Go.Proofs.YtejoneninbdjbaaDoorW.PrintWords Go.Proofs.YtejoneninbdjbaaDoor.E
theorem open_rowP {P : Program} {H : Type} {enc : TypeId × Value → H} {W : World} {α : Type} [Inhabited α] {d : Kd α} {p : α → Prop} {t e : TypeId} {fuel : Nat} {cs : List Value} {x : DataW H × List MemPlace} (ht : P.underlying t = some (.slice e)) (hc : P.cellsOf e = d.sz)
    (o : ∀ (fuel : Nat) (cs : List Value) (x : DataW H × List MemPlace), DataW.trod enc P W 0 (fun _ => true) true fuel e cs = some x → ∃ y, d.K W y cs ∧ p y)
    (h : DataW.trod enc P W 0 (fun _ => true) true fuel t cs = some x) : ∃ (A : Option Addr) (c : Nat) (l : List α), cs = [.slice A l.length c] ∧ l.length ≤ c ∧ (l.length : Int) ≤ 9223372036854775807 ∧ d.C W A l.length l ∧ ∀ y ∈ l, p y := by
  rcases open_slice ht h with ⟨rfl, _⟩ | ⟨a, len, cap, m, n, D, Pl, rfl, _, hl, hm, hmm, _, hx⟩
  · exact ⟨none, 0, [], rfl, Nat.le_refl _, by simp, ⟨rfl, by simp, fun h => absurd h (by simp)⟩, fun y hy => by cases hy⟩
  · have hlm : len ≤ m := by rw [hmm]; simp; omega
    unfold maxLen at hm
    obtain ⟨Y, hY⟩ := choose_lt (α := α) (n := len) (p := fun i y => ∃ cs', W.cells? 0 (a.add (i * P.cellsOf e)) (P.cellsOf e) = some cs' ∧ d.K W y cs' ∧ p y) (fun i hi => by
      obtain ⟨cs', h1, h2⟩ := hx i (by omega)
      obtain ⟨y, hy, hp⟩ := o _ _ _ h2
      exact ⟨y, cs', h1, hy, hp⟩)
    have hlen : ((List.range len).map Y).length = len := by simp
    refine ⟨some a, cap, (List.range len).map Y, by rw [hlen], by rw [hlen]; exact hl, by rw [hlen]; omega, ⟨rfl, by rw [hlen]; omega, fun _ => ⟨a, rfl, fun j q hj => ?_⟩⟩, fun y hy => ?_⟩
    · obtain ⟨hj1, hj2⟩ := List.getElem?_eq_some_iff.1 hj
      rw [hlen] at hj1
      simp only [List.getElem_map, List.getElem_range] at hj2
      subst hj2
      obtain ⟨cs', h1, h2, _⟩ := hY j hj1
      obtain ⟨_, g1, g2⟩ := World.cells?_some h1
      refine ⟨cs', by rw [g1, hc], h2, fun i u hu => ?_⟩
      have := g2 i (by rw [← g1]; exact (List.getElem?_eq_some_iff.1 hu).1)
      rw [Go.Deep.add_add, hc, hu] at this
      exact this
    · obtain ⟨j, hj, rfl⟩ := List.mem_map.mp hy
      obtain ⟨_, _, _, hp⟩ := hY j (List.mem_range.mp hj)
      exact hp
theorem open_intsR {P : Program} {H : Type} {enc : TypeId × Value → H} {W : World} {k : IntKind} {t e : TypeId} {fuel : Nat} {cs : List Value} {x : DataW H × List MemPlace} (ht : P.underlying t = some (.slice e)) (he : P.underlying e = some (.int k)) (hc : P.cellsOf e = 1) (h : DataW.trod enc P W 0 (fun _ => true) true fuel t cs = some x) :
    ∃ (A : Option Addr) (c : Nat) (l : List Int), cs = [.slice A l.length c] ∧ l.length ≤ c ∧ (l.length : Int) ≤ 9223372036854775807 ∧ (Kd.int k).C W A l.length l ∧ ∀ y ∈ l, (Lit.int k y).wf = true :=
  open_rowP ht hc (fun fuel cs x h => by
    obtain ⟨s, rfl, _, hs⟩ := DataW.trod_int he h
    exact ⟨s, rfl, hs⟩) h
end Go.Proofs.YtejoneninbdjbaaDoor.Pur
end
section
namespace Go.Proofs.YtejoneninbdjbaaDoor.fnStemFewest
open Go.ChangeShapes Go.WideShapes Go.ChangeAt Go.RowKit
open Go.ChangeMaps (open_string shut_string)
set_option linter.unusedVariables false
theorem own : ownKnob Tryd.prog.godebug = none := by kernel_rfl
theorem laidOut : laidOutB Tryd.prog = true := by kernel_rfl
set_option maxRecDepth 100000 in
theorem lifted (os : Os) (started : os.Started) (H : Type) (enc : TypeId × Value → H) :
    ReturnsInHanded {} Tryd.checked os 16 .any (fun w args => (Rows.fnStemFewestSpec.pre enc Tryd.prog Tryd.f16 Rows.fnStemFewestRow.domain false w args ∧ laidMetH Tryd.prog Rows.fnStemFewestRow.laid w) ∧ sizedMet enc Tryd.prog Tryd.f16 (OpenSpec.ofChange Rows.fnStemFewestSpec) false w args) (Rows.fnStemFewestSpec.post enc Tryd.prog Tryd.f16 false true false false) := by
  refine returnsInHanded_of_change_and (C := Tryd.checked) (X := fun w _ => laidMetH Tryd.prog Rows.fnStemFewestRow.laid w) (fun _ _ _ hh h => h.of_heap hh) own started (by kernel_rfl) Tryd.func16
    (ChangeSpec.witness_shaped (enc := enc) (C := Tryd.checked) (os := os) (X := fun w _ => laidMetH Tryd.prog Rows.fnStemFewestRow.laid w) false (World.laidAll Tryd.prog os Rows.fnStemFewestRow.laid) #[.slice none 0 0] 8 (World.laidAll_os _ _ _) (World.shaped_of_ZipB (by kernel_rfl) (by kernel_rfl)) (by kernel_rfl) (by kernel_rfl) (by kernel_rfl) (by rw [MakeChecks.laidMetH_plain _ _ _ (by kernel_rfl)]; exact laidMet_laidAll _ (by kernel_rfl) (by kernel_rfl))) ?_
  intro W base args ds gs before hval0 hW hcnd hsz0 hL _
  have hsz : (DataW.weightsEach Tryd.prog (Tryd.f16.params.toList ++ Rows.fnStemFewestSpec.plain.varTypes Tryd.prog) (ds ++ gs)).all (· ≤ reachBytes) = true := hsz0
  have hval : ∀ (j : Nat) t v, Tryd.f16.params[j]? = some t → args[j]? = some v → Value.okWide Tryd.prog W .any base t v := hval0
  have hW' := hW
  obtain ⟨p, q, hA0, hV, rfl, hfz, hnd⟩ := hW
  have hA : DataW.TrodAll enc Tryd.prog W 0 (fun _ => true) true Tryd.f16.params.toList args.toList ds p := hA0
  rw [Tryd.params16] at hA hval hsz
  obtain ⟨v0, vs0, d0, ds0, p0, q0, hargs, rfl, rfl, h0, r0⟩ := trodAll_cons hA
  obtain ⟨rfl, rfl, rfl⟩ := trodAll_nil r0
  obtain rfl : args = #[v0] := by cases args; simp_all
  obtain ⟨rfl, rfl⟩ := trodVars_none hV
  have k0 := h0
  have lt0 : ∀ x ∈ p0, x.block < W.heap.size := by obtain ⟨m, hm⟩ := k0; exact DataW.trod_lt m _ _ _ hm
  obtain ⟨a0, len0, cap0, rfl⟩ := okWide_slice Tryd.underlying35 (hval 0 35 v0 rfl rfl)
  obtain ⟨fuel0, hf0⟩ := h0
  obtain ⟨A0, c0, l0, hcs0, hle0, hm0, hC0, hx0⟩ := Pur.open_intsR Tryd.underlying35 Tryd.underlying5 (by kernel_rfl) hf0
  simp [Value.cells] at hcs0
  obtain ⟨rfl, rfl, rfl⟩ := hcs0
  clear hA0 hval0 hsz0 hsz
  obtain ⟨k, hk⟩ := Pur.law_fewest l0 hm0 hx0
  refine (E.laws_FnStemFewest.calls k _ _ l0 true W hC0 hle0 hk).mono fun e W' ⟨he, bel⟩ => ?_
  subst he
  exact ⟨_, rfl, _, _, _, [], _, [], hW', trodAll_mk1 (shut_bool Tryd.underlying4 _), (trodAll_cons_mk (Below.trod laidOut (by kernel_rfl) (of_decide_eq_true (by kernel_rfl)) k0 bel lt0) trodAll_mk0), rfl, bel.frame _, fun h => by cases h⟩
set_option maxRecDepth 100000 in
theorem closed : joinedFacts Tryd.prog 16 Tryd.f16 Rows.fnStemFewestSpec Rows.fnStemFewestRow = true := by
  have hf : (Rows.fnStemFewestRow.lifted == Tryd.prog.liftsFinal) = true := by rw [Head.finE]; kernel_rfl
  have hm : (Tryd.prog.make == some Rows.fnStemFewestRow.make) = true := by rw [Head.makeE]; kernel_rfl
  unfold joinedFacts
  repeat' (with_reducible refine Head.and_t ?_ ?_)
  all_goals first | with_reducible exact Head.mayE | with_reducible exact hf | with_reducible exact hm | (as_aux_lemma => kernel_rfl)
theorem over : Rows.fnStemFewestRow.holds Tryd.pinned (OpenSpec.ofChange Rows.fnStemFewestSpec) :=
  OpenClaim.holds_of_wide 16 Tryd.f16 rfl rfl rfl rfl rfl rfl rfl ⟨rfl, rfl, rfl, rfl, rfl⟩ rfl rfl rfl rfl rfl (by kernel_rfl) Tryd.func16 closed
    (of_decide_eq_true (by kernel_rfl)) (by unfold Func.isWrapper; first | (rw [if_pos (by decide +kernel)]; kernel_rfl) | (rw [if_neg (by decide +kernel)]; exact ⟨rfl, rfl⟩))
    (fun os started H enc _ => lifted os started H enc)
theorem card_ : Rows.FnStemFewestCardSaid :=
  Claim7.holds_tied_plain_at .later [] [.data, .pinned] true (true, "a175d7172c173241a438c52cad8f2cbb84e6b24e3ac681f1c733cbb943b1f07c") false
    over (fun _ h => by cases h) (by as_aux_lemma => kernel_rfl) (fun _ h => by cases h) fnStemFewest_row_tie rfl ⟨rfl, rfl⟩ (Head.mainE.trans (by as_aux_lemma => kernel_rfl)) rfl
    (fun f fn hf hfn => by
      obtain rfl : f = 16 := Option.some.inj ((show Tryd.prog.funcNamed "loop.example/neumes/laws.FnStemFewest" = some 16 by kernel_rfl).symm.trans hf) |>.symm
      obtain rfl : fn = Tryd.f16 := (Option.some.inj (Tryd.func16.symm.trans hfn)).symm
      exact ⟨by kernel_rfl, fun j t ht => by
        rw [Tryd.params16] at ht
        have hm : t ∈ [35] := by simpa using Array.mem_of_getElem? ht
        have hall : ([35].all fun u => !Tryd.prog.wantsStandIn u) = true := by kernel_rfl
        exact (show Tryd.prog.wantsStandIn t = false by simpa using List.all_eq_true.1 hall t hm)⟩)
    (by kernel_rfl)
theorem proved : Rows.FnStemFewestCardSaid := card_
#print axioms proved
end Go.Proofs.YtejoneninbdjbaaDoor.fnStemFewest
namespace Go.Proofs.YtejoneninbdjbaaDoor
theorem fnStemFewest_holds : Rows.FnStemFewestCardSaid := fnStemFewest.proved
end Go.Proofs.YtejoneninbdjbaaDoor
end
