/- Proved: for all arguments the given program's laws.FnPsalmMove returns true, and its arguments and the package-level variables that it is given read afterwards as they read before (the given constant Rows.FnPsalmMoveCardSaid).
Conditions: none ahead of the given statement; the statement itself begins in a world whose listed package-level variables hold what the program's text lays there, and its card ties them to that text. -/
import Derived.Test.YtdgmkfbmeaalpaaDoorRowFnPsalmMoveK4
section
namespace Go.Proofs.YtdgmkfbmeaalpaaDoor.E
open Go.RowKit Go.Proofs.YtdgmkfbmeaalpaaDoorW.PrintWords Go.Proofs.YtdgmkfbmeaalpaaDoorW.PrintLast Go.Proofs.YtdgmkfbmeaalpaaDoorW.PrintMore
attribute [local go_sem] max2_int min2_int max_two min_two max_three min_three max_four min_four
set_option linter.unusedVariables false
set_option linter.unusedSimpArgs false
attribute [local go_sem] str_leq_ str_gtr_ str_geq_
def spec_l91Psalms.l0 : Nat → List (S27) → Int → Int → List Int → Int → Option ((List (S27)) × Int)
 | 0, _, _, _, _, _ => none
 | k + 1, x3, x4, x5, x1000, x1001 => if x5 < x4 then ((spec_l91Psalm.f k x1000 x1001).bind fun bt747 => (if x3.length < 1599289640401 then (spec_l91Psalms.l0 k (x3 ++ [(⟨bt747.1, (⟨bt747.2.1, bt747.2.2.1⟩ : S25), bt747.2.2.2.1, bt747.2.2.2.2.1⟩ : S27)]) x4 (wrap64 (x5 + 1)) x1000 bt747.2.2.2.2.2) else (none))) else (some (x3, x1001))
def spec_l91Psalms.f (k : Nat) (s0_0 : List Int) (s0_1 : Int) : Option ((List (S27)) × Int) := (spec_l6Rd_pick.f k s0_0 s0_1 4).bind fun bt745 => (spec_l91Psalms.l0 k (([] : List (S27))) bt745.1 0 s0_0 bt745.2)
end Go.Proofs.YtdgmkfbmeaalpaaDoor.E
end
section
namespace Go.Proofs.YtdgmkfbmeaalpaaDoor.Pur
open Go.RowKit Go.Proofs.YtdgmkfbmeaalpaaDoorW.PrintWords Go.Proofs.YtdgmkfbmeaalpaaDoor.E
theorem some_loop {B : List Int} (hB : okB B) (n : Int) (hn : 0 ≤ n ∧ n ≤ 20) : ∀ (d : Nat) (i : Int) (acc : List S25) (p : Int), 0 ≤ i → i + d = n → (acc.length : Int) = i → 0 ≤ p → p ≤ 1000000 - 10 * d → EvP (fun k => spec_l91Some.l0 k n acc i B p) (fun r => (r.1.length : Int) = n ∧ 0 ≤ r.2 ∧ r.2 ≤ p + 2 * d) := by
  intro d
  induction d with
  | zero =>
    intro i acc p h0 hi ha hp hp'
    refine EvP.succ ?_
    simp only [spec_l91Some.l0]
    exact EvP.no (by omega) (EvP.ret ⟨by simp only []; omega, by simp only []; omega, by simp only []; omega⟩)
  | succ d ih =>
    intro i acc p h0 hi ha hp hp'
    refine EvP.succ ?_
    simp only [spec_l91Some.l0]
    refine EvP.yes (by omega) ?_
    refine EvP.bind (pick_ok hB p 6 (by omega) (by omega)) (fun r1 ⟨a1, a2, a3⟩ => ?_)
    have e1 : Hd (wrap64 (i + 1) = i + 1) := ⟨w64 (by omega) (by omega)⟩
    refine EvP.bind (P := fun _ => True) (EvP.con rfl trivial) (fun _ _ => ?_)
    refine EvP.ite (fun _ => ?_) (fun _ => ?_)
    · refine EvP.bind (pick_ok hB r1.2 2 (by omega) (by omega)) (fun r2 ⟨b1, b2, b3⟩ => ?_)
      refine EvP.yes (by omega) ?_
      rw [e1.out]
      refine (ih (i + 1) _ r2.2 (by omega) (by omega) (by simp; omega) (by omega) (by omega)).mono ?_
      rintro r ⟨c1, c2, c3⟩
      exact ⟨c1, c2, by omega⟩
    · refine EvP.yes (by omega) ?_
      rw [e1.out]
      refine (ih (i + 1) _ r1.2 (by omega) (by omega) (by simp; omega) (by omega) (by omega)).mono ?_
      rintro r ⟨c1, c2, c3⟩
      exact ⟨c1, c2, by omega⟩
theorem some_ok {B : List Int} (hB : okB B) (p n : Int) (hn : 0 ≤ n ∧ n ≤ 20) (hp : 0 ≤ p ∧ p ≤ 900000) : EvP (fun k => spec_l91Some.f k B p n) (fun r => (r.1.length : Int) = n ∧ 0 ≤ r.2 ∧ r.2 ≤ p + 2 * n) := by
  simp only [spec_l91Some.f]
  refine (some_loop hB n hn n.toNat 0 [] p (by omega) (by omega) rfl (by omega) (by omega)).mono ?_
  rintro r ⟨c1, c2, c3⟩
  exact ⟨c1, c2, by omega⟩
theorem draw_psalm {B : List Int} (hB : okB B) (p : Int) (hp : 0 ≤ p ∧ p ≤ 100000) : EvP (fun k => spec_l91Psalm.f k B p) (fun r => r.1.length ≤ 10 ∧ r.2.2.2.1.length ≤ 10 ∧ r.2.2.2.2.1.length ≤ 10 ∧ 0 ≤ r.2.2.2.2.2 ∧ r.2.2.2.2.2 ≤ p + 50) := by
  simp only [spec_l91Psalm.f]
  refine EvP.bind (pick_ok hB p 4 (by omega) (by omega)) (fun r1 ⟨a1, a2, a3⟩ => ?_)
  refine EvP.bind (some_ok hB r1.2 r1.1 (by omega) (by omega)) (fun r2 ⟨b1, b2, b3⟩ => ?_)
  refine EvP.bind (pick_ok hB r2.2 4 (by omega) (by omega)) (fun r3 ⟨c1, c2, c3⟩ => ?_)
  refine EvP.bind (pick_ok hB r3.2 3 (by omega) (by omega)) (fun r4 ⟨d1, d2, d3⟩ => ?_)
  have e4 : Hd (wrap64 (1 + r4.1) = 1 + r4.1) := ⟨w64 (by omega) (by omega)⟩
  rw [e4.out]
  refine EvP.bind (some_ok hB r4.2 (1 + r4.1) (by omega) (by omega)) (fun r5 ⟨f1, f2, f3⟩ => ?_)
  refine EvP.bind (pick_ok hB r5.2 4 (by omega) (by omega)) (fun r6 ⟨g1, g2, g3⟩ => ?_)
  have e6 : Hd (wrap64 (1 + r6.1) = 1 + r6.1) := ⟨w64 (by omega) (by omega)⟩
  rw [e6.out]
  refine EvP.bind (some_ok hB r6.2 (1 + r6.1) (by omega) (by omega)) (fun r7 ⟨h1, h2, h3⟩ => ?_)
  refine EvP.bind (pick_ok hB r7.2 40 (by omega) (by omega)) (fun r8 ⟨i1, i2, i3⟩ => ?_)
  refine EvP.ite (fun _ => EvP.ret ?_) (fun _ => EvP.ite (fun _ => EvP.ret ?_) (fun _ => EvP.ite (fun _ => ?_) (fun _ => EvP.ret ?_)))
  · exact ⟨by simp only []; omega, by simp only []; omega, by simp only []; omega, by simp only []; omega, by simp only []; omega⟩
  · exact ⟨by simp only []; omega, Nat.zero_le _, by simp only []; omega, by simp only []; omega, by simp only []; omega⟩
  · refine EvP.bind (some_ok hB r8.2 5 (by omega) (by omega)) (fun r9 ⟨j1, j2, j3⟩ => EvP.ret ?_)
    exact ⟨by simp only []; omega, by simp only []; omega, by simp only []; omega, by simp only []; omega, by simp only []; omega⟩
  · exact ⟨by simp only []; omega, by simp only []; omega, by simp only []; omega, by simp only []; omega, by simp only []; omega⟩
end Go.Proofs.YtdgmkfbmeaalpaaDoor.Pur
end
section
namespace Go.Proofs.YtdgmkfbmeaalpaaDoor.Pur
open Go Go.RowKit Go.Proofs.YtdgmkfbmeaalpaaDoorW.PrintWords Go.Proofs.YtdgmkfbmeaalpaaDoorW.PrintMore Go.Proofs.YtdgmkfbmeaalpaaDoor.E
theorem draw_mv (l : List Int) (h : ∀ x ∈ l, (Lit.int .u8 x).wf = true) : EvP (fun k => spec_DrawPsalmMove.f k l) (fun r => r.1.length ≤ 10 ∧ r.2.2.2.1.length ≤ 10 ∧ r.2.2.2.2.1.length ≤ 10) := by
  simp only [spec_DrawPsalmMove.f]
  refine EvP.bind (open_code l h) (fun r hr => ?_)
  refine EvP.bind (draw_psalm hr.1 r.2 (by omega)) (fun q hq => ?_)
  refine EvP.bind (P := (· = [(-7), (-4), (-3), 0, 3, 4, 7])) (EvP.ret rfl) (fun y e => ?_)
  rw [e]
  refine EvP.bind (pick_ok hr.1 q.2.2.2.2.2 7 (by omega) (by omega)) (fun a ha => ?_)
  have h7 : (([(-7), (-4), (-3), 0, 3, 4, 7] : List Int).length : Int) = 7 := rfl
  exact EvP.yes ha.1 (EvP.yes (by omega) (EvP.ret ⟨hq.1, hq.2.1, hq.2.2.1⟩))
theorem same_ps (r : PsR) (h1 : r.1.length ≤ 1000000) (h2 : r.2.2.2.1.length ≤ 1000000) (h3 : r.2.2.2.2.1.length ≤ 1000000) : EvP (fun n => laws_samePsalm.f n r.1 r.2.1 r.2.2.1 r.2.2.2.1 r.2.2.2.2.1 r.1 r.2.1 r.2.2.1 r.2.2.2.1 r.2.2.2.2.1) (· = true) := by
  simp only [laws_samePsalm.f]
  have e : ∀ l : TL, l.length ≤ 1000000 → EvP (fun n => laws_sameTones.f n l l) (· = true) := fun l hl => (law_eqT l l (by omega)).mono (fun r hr => by rw [hr]; exact decide_eq_true rfl)
  refine EvP.bind (e _ h1) (fun _ e1 => ?_)
  subst e1
  refine EvP.yes rfl (EvP.yes (by simp) ?_)
  refine EvP.bind (e _ h2) (fun _ e1 => ?_)
  subst e1
  refine EvP.yes rfl ?_
  exact EvP.bind (e _ h3) (fun _ e1 => EvP.ret e1)
theorem psMv_small (ps : TL) (x : Int) (b : Bool) (pm pe : TL) (k : Int) : (psMv ps x b pm pe k).1.length ≤ 1000000 ∧ (psMv ps x b pm pe k).2.2.2.1.length ≤ 1000000 ∧ (psMv ps x b pm pe k).2.2.2.2.1.length ≤ 1000000 := by
  unfold psMv
  split
  · rename_i h
    obtain ⟨l1, _, l3, _, l4, _, _, _, _⟩ := okPs_lens h
    split
    · rename_i hm
      obtain ⟨m, r1, t, r3, r4, er, h1, ht, h3, h4⟩ := psMv_of hm
      have k1 := (mvAll_len h1).1
      have k3 := (mvAll_len h3).1
      have k4 := (mvAll_len h4).1
      rw [er, psOf_is k1 k3]
      exact ⟨by dsimp only; omega, by dsimp only; omega, by dsimp only; omega⟩
    · exact ⟨by simp, by simp, by simp⟩
  · exact ⟨by simp, by simp, by simp⟩
theorem psMv_ok {ps pm pe : TL} {x : Int} {b : Bool} {k : Int} (h : (psMv ps x b pm pe k).2.2.2.2.2 = true) : okPs ps x b pm pe = true ∧ ∃ m r1 t r3 r4, psMv ps x b pm pe k = (r1, t.f0, t.f1, r3, r4, true) ∧ mvAll k m ps = some r1 ∧ mv1 k m ⟨x, b⟩ = some t ∧ mvAll k m pm = some r3 ∧ mvAll k m pe = some r4 := by
  unfold psMv at h ⊢
  split at h
  · rename_i ho
    rw [if_pos ho]
    refine ⟨ho, ?_⟩
    split at h
    · rename_i hm
      rw [if_pos hm]
      obtain ⟨m, r1, t, r3, r4, er, h1, ht, h3, h4⟩ := psMv_of hm
      refine ⟨m, r1, t, r3, r4, ?_, h1, ht, h3, h4⟩
      rw [er, psOf_is (mvAll_len h1).1 (mvAll_len h3).1]
    · cases h
  · cases h
theorem tones_mv {k m : Int} {a r : TL} (h : mvAll k m a = some r) {lo hi : Int} (ha : tonesB a lo hi = true) : tonesB r lo hi = true := by
  obtain ⟨k1, k2⟩ := mvAll_len h
  unfold tonesB okM at ha ⊢
  rw [k1, k2]
  simp only [Bool.and_eq_true, decide_eq_true_eq] at ha ⊢
  exact ⟨ha.1, ha.2.1, trivial, ha.2.2.2⟩
theorem ok_mv {ps pm pe r1 r3 r4 : TL} {x : Int} {b : Bool} {t : TnM} {k m : Int} (ho : okPs ps x b pm pe = true) (h1 : mvAll k m ps = some r1) (ht : mv1 k m ⟨x, b⟩ = some t) (h3 : mvAll k m pm = some r3) (h4 : mvAll k m pe = some r4) : okPs r1 t.f0 t.f1 r3 r4 = true := by
  unfold okPs at ho ⊢
  simp only [Bool.and_eq_true] at ho ⊢
  exact ⟨tones_mv h1 ho.1, (mv1_of ht).1, tones_mv h3 ho.2.2.1, tones_mv h4 ho.2.2.2⟩
theorem law_mv (l1 l2 : List Int) (_ : (l1.length : Int) ≤ 9223372036854775807) (hb : ∀ x ∈ l1, (Lit.int .u8 x).wf = true) (_ : (l2.length : Int) ≤ 9223372036854775807) (_ : ∀ x ∈ l2, (Lit.int .u8 x).wf = true) : ∃ k, laws_FnPsalmMove.f k l1 l2 = some true := by
  refine EvP.rounds ?_
  have triv : ∀ b, b = true → EvP (fun k => laws_FnPsalmMove.j0 k l1 l2 b) (· = true) := by
    intro b e
    subst e
    refine EvP.succ ?_
    simp only [laws_FnPsalmMove.j0]
    exact EvP.yes trivial (EvP.ret rfl)
  simp only [laws_FnPsalmMove.f]
  refine EvP.ite (fun _ => triv true rfl) (fun _ => ?_)
  by_cases hlong : (l2.length : Int) > 1048576
  · exact triv _ (decide_eq_true hlong)
  rw [decide_eq_false hlong]
  refine EvP.succ ?_
  simp only [laws_FnPsalmMove.j0]
  refine EvP.no (by simp) ?_
  refine EvP.bind (draw_mv l1 hb) (fun r hr => ?_)
  obtain ⟨ps, x, b, pm, pe, k⟩ := r
  dsimp only at hr ⊢
  obtain ⟨hl1, hl3, hl4⟩ := hr
  refine EvP.bind (impl_psmove ps x b pm pe k) (fun y e => ?_)
  rw [e]
  clear e y
  refine EvP.bind (spec_psmove ps x b pm pe k (by omega) (by omega) (by omega)) (fun y e => ?_)
  rw [e]
  clear e y
  obtain ⟨s1, s2, s3⟩ := psMv_small ps x b pm pe k
  have hsame := same_ps (psMv ps x b pm pe k) s1 s2 s3
  refine EvP.no (by simp) ?_
  refine EvP.bind hsame (fun _ e => ?_)
  subst e
  refine EvP.yes rfl (EvP.succ ?_)
  simp only [laws_FnPsalmMove.j1]
  refine EvP.ite (fun _ => ?_) (fun hx => ?_)
  · refine EvP.yes (by simp) ?_
    exact EvP.bind hsame (fun _ e => EvP.ret e)
  · have h2 : (psMv ps x b pm pe k).2.2.2.2.2 = true := by
      cases h : (psMv ps x b pm pe k).2.2.2.2.2 with
      | true => rfl
      | false => rw [h] at hx; exact absurd rfl hx
    obtain ⟨ho, m, r1, t, r3, r4, er, h1, ht, h3, h4⟩ := psMv_ok h2
    rw [er]
    dsimp only
    have ho' := ok_mv ho h1 ht h3 h4
    have k1 := (mvAll_len h1).1
    have k3 := (mvAll_len h3).1
    have k4 := (mvAll_len h4).1
    refine EvP.bind (P := (· = [(⟨#[120, 120, 47, 120, 124, 120, 47, 120]⟩ : ByteArray), ⟨#[120, 47, 120, 120, 47, 120, 120, 124, 120, 120, 47, 120, 47, 120, 120]⟩, ⟨#[120, 124, 120]⟩, ⟨#[47, 47, 47, 47, 47, 47, 124, 47, 47, 47, 47]⟩])) (EvP.ret rfl) (fun y e => ?_)
    rw [e]
    clear e y
    have i0 := Int.emod_nonneg (l2.length : Int) (show (4 : Int) ≠ 0 by omega)
    have i1 := Int.emod_lt_of_pos (l2.length : Int) (show (0 : Int) < 4 by omega)
    refine EvP.yes i0 (EvP.yes i1 ?_)
    obtain ⟨i, hi⟩ := Int.eq_ofNat_of_zero_le i0
    have hs : ∀ j : Nat, j < 4 → (rdOf ByteArray.empty [(⟨#[120, 120, 47, 120, 124, 120, 47, 120]⟩ : ByteArray), ⟨#[120, 47, 120, 120, 47, 120, 120, 124, 120, 120, 47, 120, 47, 120, 120]⟩, ⟨#[120, 124, 120]⟩, ⟨#[47, 47, 47, 47, 47, 47, 124, 47, 47, 47, 47]⟩] (j : Int)).size ≤ 100 := by decide
    have hsz := hs i (by omega)
    rw [hi]
    generalize rdOf ByteArray.empty _ (i : Int) = s at hsz ⊢
    have hfit : fitP r1 t.f0 t.f1 r3 r4 s = fitP ps x b pm pe s := by
      unfold fitP
      rw [ho, ho', k1, k3, k4]
    refine EvP.bind (impl_sing ps x b pm pe s (by omega)) (fun y e => ?_)
    rw [e]
    clear e y
    refine EvP.bind (impl_sing r1 t.f0 t.f1 r3 r4 s (by omega)) (fun y e => ?_)
    rw [e]
    clear e y
    refine EvP.bind (impl_fits r1 t.f0 t.f1 r3 r4 s (by omega)) (fun y e => ?_)
    rw [e]
    clear e y
    refine EvP.bind (impl_fits ps x b pm pe s (by omega)) (fun y e => ?_)
    rw [e]
    clear e y
    rw [hfit]
    have hval := impl_psalm r1 t.f0 t.f1 r3 r4
    rw [ho'] at hval
    refine EvP.yes (by simp) ?_
    cases hf : fitP ps x b pm pe s with
    | none => exact EvP.yes rfl (EvP.no (by simp [singR]) (EvP.bind hval (fun _ e => EvP.ret e)))
    | some q =>
      obtain ⟨u, v⟩ := q
      have h20 := singR_short (ps := ps) (x := x) (b := b) (pm := pm) (pe := pe) (s := s)
      rw [hf] at h20
      obtain ⟨_, _, f1, f2⟩ := fit_some hf
      have hln := sing_len (x := x) (b := b) f1 f2
      obtain ⟨_, m1, _, m3, _, o1, o2, o3, o4⟩ := okPs_lens ho
      have hmv : mvAll k m (singOf ps x b pm pe u.size v.size) = some (singOf r1 t.f0 t.f1 r3 r4 u.size v.size) := by
        unfold singOf
        rw [k1, k3, k4]
        exact mvAll_app h1 (mvAll_app (mvAll_rep ht _) (mvAll_app h3 (mvAll_app (mvAll_rep ht _) h4)))
      have hne : singOf ps x b pm pe u.size v.size ≠ [] := by
        intro e0
        have := congrArg List.length e0
        rw [hln, List.length_nil] at this
        omega
      have hok : okM (singOf ps x b pm pe u.size v.size) = true := by
        have part : ∀ l : TL, okM l = true → l.all okT = true := fun l hl => by unfold okM at hl; rw [Bool.and_eq_true] at hl; exact hl.1
        have rep : ∀ n : Nat, (List.replicate n (⟨x, b⟩ : TnM)).all okT = true := fun n => by
          rw [List.all_eq_true]
          intro y hy
          rw [List.eq_of_mem_replicate hy]
          exact o2
        unfold okM
        rw [Bool.and_eq_true]
        refine ⟨?_, decide_eq_true ?_⟩
        · unfold singOf
          simp only [List.all_append, part ps o1, rep, part pm o3, part pe o4, Bool.and_true]
        · have : (singR ps x b pm pe (some (u, v))).1 = singOf ps x b pm pe u.size v.size := rfl
          rw [this] at h20
          omega
      refine EvP.yes (by simp [singR]) (EvP.yes (by simp [singR]) ?_)
      refine EvP.bind (same_mv hok hne hmv) (fun _ e => ?_)
      subst e
      exact EvP.yes rfl (EvP.bind hval (fun _ e => EvP.ret e))
end Go.Proofs.YtdgmkfbmeaalpaaDoor.Pur
end
section
namespace Go.Proofs.YtdgmkfbmeaalpaaDoor.Head
set_option maxRecDepth 100000
theorem and_t {a b : Bool} (h : a = true) (k : b = true) : (a && b) = true := by rw [h, k]; rfl
theorem mayEnter_of {P : Program} {l : List String} {W rest : List (List Char)} (h : behindMainWord (wordsSigns P.initOrder.toList) = W) (hc : ∃ c r, W = c :: r ∧ (c == "gc".toList || c == "spec".toList) = false ∧ (c == "carried".toList) = false) (hs : stripLifts liftWords W = (l, "cut".toList :: rest))
    (hl : (l.contains "finals" || !P.laysLater) = true) (hb : (l.contains "reflectrows" || !P.bearsReflect) = true) (hr : (l.contains "reflectrows" || !l.contains "leanrows") = true) (hd : P.doorFits l = true) : P.mayEnter = true := by
  obtain ⟨c, r, rfl, h1, h2⟩ := hc
  unfold Program.mayEnter
  rw [h]
  dsimp only
  rw [hs, hl, hb, hr, hd, h1, h2]
  simp
theorem headLifts_of {P : Program} {l : List String} {W rest : List (List Char)} (h : behindMainWord (wordsSigns P.initOrder.toList) = W) (hs : stripLifts liftWords W = (l, "cut".toList :: rest)) : P.headLifts = l := by
  unfold Program.headLifts
  rw [h]
  dsimp only
  rw [hs]
  simp
theorem liftsFinal_of {P : Program} {l : List String} {W rest : List (List Char)} (h : behindMainWord (wordsSigns P.initOrder.toList) = W) (hc : ∃ c r, W = c :: r ∧ (c == "gc".toList || c == "spec".toList) = false ∧ (c == "carried".toList) = false) (hs : stripLifts liftWords W = (l, "cut".toList :: rest)) : P.liftsFinal = l.contains "finals" := by
  unfold Program.liftsFinal
  rw [headLifts_of h hs, h]
  obtain ⟨c, r, rfl, h1, h2⟩ := hc
  have h3 : ((c :: r).head? == some "carried".toList) = false := by
    rw [beq_eq_false_iff_ne] at h2 ⊢
    exact fun e => h2 (Option.some.inj e)
  dsimp only
  rw [h3, Bool.false_and, Bool.false_or]
theorem make_of {P : Program} {rest : List (List Char)} (h : behindMainWord (wordsSigns P.initOrder.toList) = "cut".toList :: rest) : P.make = some .cut := by
  unfold Program.make
  rw [h]
  dsimp only
  rw [if_neg (by decide), if_pos (by simp)]
theorem mainIs_of {P : Program} {s : List Char} {rest : List (List Char)} (h : wordsSigns P.initOrder.toList = "harness".toList :: s :: rest) (hs : isSumSigns s = true) : P.mainIs = some (true, s) := by
  unfold Program.mainIs
  rw [h]
  dsimp only
  rw [hs]
  simp
def io : List Nat := [104, 97, 114, 110, 101, 115, 115, 32, 57, 53, 99, 56, 51, 49, 56, 101, 49, 51, 57, 50, 101, 98, 50, 97, 53, 100, 98, 55, 98, 56, 98, 55, 97, 57, 57, 100, 50, 56, 50, 99, 53, 54, 50, 53, 56, 101, 55, 102, 101, 54, 49, 101, 48, 100, 97, 56, 101, 52, 50, 57, 101, 54, 100, 53, 100, 51, 48, 52, 101, 52, 101, 101, 32, 99, 117, 116, 32, 97, 116, 32, 108, 111, 111, 112, 46, 101, 120, 97, 109, 112, 108, 101, 47, 110, 101, 117, 109, 101, 115, 47, 108, 97, 119, 115, 46, 70, 110, 80, 115, 97, 108, 109, 70, 105, 116, 115, 32, 108, 111, 111, 112, 46, 101, 120, 97, 109, 112, 108, 101, 47, 110, 101, 117, 109, 101, 115, 47, 108, 97, 119, 115, 46, 70, 110, 69, 120, 97, 99, 116, 80, 115, 97, 108, 109, 84, 101, 110, 111, 114, 115, 32, 108, 111, 111, 112, 46, 101, 120, 97, 109, 112, 108, 101, 47, 110, 101, 117, 109, 101, 115, 47, 108, 97, 119, 115, 46, 70, 110, 80, 115, 97, 108, 109, 65, 99, 99, 101, 110, 116, 115, 32, 108, 111, 111, 112, 46, 101, 120, 97, 109, 112, 108, 101, 47, 110, 101, 117, 109, 101, 115, 47, 108, 97, 119, 115, 46, 70, 110, 69, 120, 97, 99, 116, 80, 115, 97, 108, 109, 65, 99, 99, 101, 110, 116, 115, 32, 108, 111, 111, 112, 46, 101, 120, 97, 109, 112, 108, 101, 47, 110, 101, 117, 109, 101, 115, 47, 108, 97, 119, 115, 46, 70, 110, 80, 115, 97, 108, 109, 77, 111, 114, 101, 32, 108, 111, 111, 112, 46, 101, 120, 97, 109, 112, 108, 101, 47, 110, 101, 117, 109, 101, 115, 47, 108, 97, 119, 115, 46, 70, 110, 80, 115, 97, 108, 109, 32, 108, 111, 111, 112, 46, 101, 120, 97, 109, 112, 108, 101, 47, 110, 101, 117, 109, 101, 115, 47, 108, 97, 119, 115, 46, 70, 110, 69, 120, 97, 99, 116, 80, 115, 97, 108, 109, 83, 105, 110, 103, 32, 108, 111, 111, 112, 46, 101, 120, 97, 109, 112, 108, 101, 47, 110, 101, 117, 109, 101, 115, 47, 108, 97, 119, 115, 46, 70, 110, 80, 115, 97, 108, 109, 66, 101, 115, 116, 32, 108, 111, 111, 112, 46, 101, 120, 97, 109, 112, 108, 101, 47, 110, 101, 117, 109, 101, 115, 47, 108, 97, 119, 115, 46, 70, 110, 80, 115, 97, 108, 109, 82, 101, 97, 100, 32, 108, 111, 111, 112, 46, 101, 120, 97, 109, 112, 108, 101, 47, 110, 101, 117, 109, 101, 115, 47, 108, 97, 119, 115, 46, 70, 110, 69, 120, 97, 99, 116, 80, 115, 97, 108, 109, 82, 101, 97, 100, 32, 108, 111, 111, 112, 46, 101, 120, 97, 109, 112, 108, 101, 47, 110, 101, 117, 109, 101, 115, 47, 108, 97, 119, 115, 46, 70, 110, 69, 120, 97, 99, 116, 80, 115, 97, 108, 109, 66, 101, 115, 116, 32, 108, 111, 111, 112, 46, 101, 120, 97, 109, 112, 108, 101, 47, 110, 101, 117, 109, 101, 115, 47, 108, 97, 119, 115, 46, 70, 110, 80, 115, 97, 108, 109, 77, 111, 118, 101]
def ws : List (List Nat) := [[104, 97, 114, 110, 101, 115, 115], [57, 53, 99, 56, 51, 49, 56, 101, 49, 51, 57, 50, 101, 98, 50, 97, 53, 100, 98, 55, 98, 56, 98, 55, 97, 57, 57, 100, 50, 56, 50, 99, 53, 54, 50, 53, 56, 101, 55, 102, 101, 54, 49, 101, 48, 100, 97, 56, 101, 52, 50, 57, 101, 54, 100, 53, 100, 51, 48, 52, 101, 52, 101, 101], [99, 117, 116], [97, 116], [108, 111, 111, 112, 46, 101, 120, 97, 109, 112, 108, 101, 47, 110, 101, 117, 109, 101, 115, 47, 108, 97, 119, 115, 46, 70, 110, 80, 115, 97, 108, 109, 70, 105, 116, 115], [108, 111, 111, 112, 46, 101, 120, 97, 109, 112, 108, 101, 47, 110, 101, 117, 109, 101, 115, 47, 108, 97, 119, 115, 46, 70, 110, 69, 120, 97, 99, 116, 80, 115, 97, 108, 109, 84, 101, 110, 111, 114, 115], [108, 111, 111, 112, 46, 101, 120, 97, 109, 112, 108, 101, 47, 110, 101, 117, 109, 101, 115, 47, 108, 97, 119, 115, 46, 70, 110, 80, 115, 97, 108, 109, 65, 99, 99, 101, 110, 116, 115], [108, 111, 111, 112, 46, 101, 120, 97, 109, 112, 108, 101, 47, 110, 101, 117, 109, 101, 115, 47, 108, 97, 119, 115, 46, 70, 110, 69, 120, 97, 99, 116, 80, 115, 97, 108, 109, 65, 99, 99, 101, 110, 116, 115], [108, 111, 111, 112, 46, 101, 120, 97, 109, 112, 108, 101, 47, 110, 101, 117, 109, 101, 115, 47, 108, 97, 119, 115, 46, 70, 110, 80, 115, 97, 108, 109, 77, 111, 114, 101], [108, 111, 111, 112, 46, 101, 120, 97, 109, 112, 108, 101, 47, 110, 101, 117, 109, 101, 115, 47, 108, 97, 119, 115, 46, 70, 110, 80, 115, 97, 108, 109], [108, 111, 111, 112, 46, 101, 120, 97, 109, 112, 108, 101, 47, 110, 101, 117, 109, 101, 115, 47, 108, 97, 119, 115, 46, 70, 110, 69, 120, 97, 99, 116, 80, 115, 97, 108, 109, 83, 105, 110, 103], [108, 111, 111, 112, 46, 101, 120, 97, 109, 112, 108, 101, 47, 110, 101, 117, 109, 101, 115, 47, 108, 97, 119, 115, 46, 70, 110, 80, 115, 97, 108, 109, 66, 101, 115, 116], [108, 111, 111, 112, 46, 101, 120, 97, 109, 112, 108, 101, 47, 110, 101, 117, 109, 101, 115, 47, 108, 97, 119, 115, 46, 70, 110, 80, 115, 97, 108, 109, 82, 101, 97, 100], [108, 111, 111, 112, 46, 101, 120, 97, 109, 112, 108, 101, 47, 110, 101, 117, 109, 101, 115, 47, 108, 97, 119, 115, 46, 70, 110, 69, 120, 97, 99, 116, 80, 115, 97, 108, 109, 82, 101, 97, 100], [108, 111, 111, 112, 46, 101, 120, 97, 109, 112, 108, 101, 47, 110, 101, 117, 109, 101, 115, 47, 108, 97, 119, 115, 46, 70, 110, 69, 120, 97, 99, 116, 80, 115, 97, 108, 109, 66, 101, 115, 116], [108, 111, 111, 112, 46, 101, 120, 97, 109, 112, 108, 101, 47, 110, 101, 117, 109, 101, 115, 47, 108, 97, 119, 115, 46, 70, 110, 80, 115, 97, 108, 109, 77, 111, 118, 101]]
def ch (w : List Nat) : List Char := w.map Char.ofNat
theorem io_is : Tryd.prog.initOrder = String.ofList (ch io) := by kernel_rfl
theorem io_ws : wordsSigns (ch io) = ws.map ch := by kernel_rfl
theorem io_all : wordsSigns Tryd.prog.initOrder.toList = ws.map ch := by rw [io_is, String.toList_ofList, io_ws]
theorem be : behindMainWord (ws.map ch) = (ws.drop 2).map ch := by kernel_rfl
theorem io_be : behindMainWord (wordsSigns Tryd.prog.initOrder.toList) = (ws.drop 2).map ch := by rw [io_all, be]
theorem first : ∃ c r, (ws.drop 2).map ch = c :: r ∧ (c == "gc".toList || c == "spec".toList) = false ∧ (c == "carried".toList) = false := ⟨ch (ws.getD 2 []), (ws.drop 3).map ch, by kernel_rfl, by kernel_rfl, by kernel_rfl⟩
theorem st : stripLifts liftWords ((ws.drop 2).map ch) = ([], "cut".toList :: ((ws.drop 3).map ch)) := by kernel_rfl
theorem ll : ([].contains "finals" || !Tryd.prog.laysLater) = true := by kernel_rfl
theorem br : ([].contains "reflectrows" || !Tryd.prog.bearsReflect) = true := by kernel_rfl
theorem rr : ([].contains "reflectrows" || ![].contains "leanrows") = true := by kernel_rfl
theorem df : Tryd.prog.doorFits [] = true := by kernel_rfl
theorem mayE : Tryd.prog.mayEnter = true := mayEnter_of io_be first st ll br rr df
theorem finE : Tryd.prog.liftsFinal = [].contains "finals" := liftsFinal_of io_be first st
theorem mainE : Tryd.prog.mainIs = some (true, ch [57, 53, 99, 56, 51, 49, 56, 101, 49, 51, 57, 50, 101, 98, 50, 97, 53, 100, 98, 55, 98, 56, 98, 55, 97, 57, 57, 100, 50, 56, 50, 99, 53, 54, 50, 53, 56, 101, 55, 102, 101, 54, 49, 101, 48, 100, 97, 56, 101, 52, 50, 57, 101, 54, 100, 53, 100, 51, 48, 52, 101, 52, 101, 101]) := mainIs_of (rest := (ws.drop 2).map ch) (io_all.trans (by kernel_rfl)) (by kernel_rfl)
theorem makeE : Tryd.prog.make = some .cut := make_of (io_be.trans (by kernel_rfl : (ws.drop 2).map ch = "cut".toList :: ((ws.drop 3).map ch)))
end Go.Proofs.YtdgmkfbmeaalpaaDoor.Head
end
section
namespace Go.Proofs.YtdgmkfbmeaalpaaDoor.Pur
open Go.RowKit Go.ChangeShapes Go.Deep Go.Proofs.YtdgmkfbmeaalpaaDoorW.PrintWords Go.Proofs.YtdgmkfbmeaalpaaDoor.E
theorem open_rowP {P : Program} {H : Type} {enc : TypeId × Value → H} {W : World} {α : Type} [Inhabited α] {d : Kd α} {p : α → Prop} {t e : TypeId} {fuel : Nat} {cs : List Value} {x : DataW H × List MemPlace} (ht : P.underlying t = some (.slice e)) (hc : P.cellsOf e = d.sz)
    (o : ∀ (fuel : Nat) (cs : List Value) (x : DataW H × List MemPlace), DataW.trod enc P W 0 (fun _ => true) true fuel e cs = some x → ∃ y, d.K W y cs ∧ p y)
    (h : DataW.trod enc P W 0 (fun _ => true) true fuel t cs = some x) : ∃ (A : Option Addr) (c : Nat) (l : List α), cs = [.slice A l.length c] ∧ l.length ≤ c ∧ (l.length : Int) ≤ 9223372036854775807 ∧ d.C W A l.length l ∧ ∀ y ∈ l, p y := by
  rcases open_slice ht h with ⟨rfl, _⟩ | ⟨a, len, cap, m, n, D, Pl, rfl, _, hl, hm, hmm, _, hx⟩
  · exact ⟨none, 0, [], rfl, Nat.le_refl _, by simp, ⟨rfl, by simp, fun h => absurd h (by simp)⟩, fun y hy => by cases hy⟩
  · have hlm : len ≤ m := by rw [hmm]; simp; omega
    unfold maxLen at hm
    obtain ⟨Y, hY⟩ := choose_lt (α := α) (n := len) (p := fun i y => ∃ cs', W.cells? 0 (a.add (i * P.cellsOf e)) (P.cellsOf e) = some cs' ∧ d.K W y cs' ∧ p y) (fun i hi => by
      obtain ⟨cs', h1, h2⟩ := hx i (by omega)
      obtain ⟨y, hy, hp⟩ := o _ _ _ h2
      exact ⟨y, cs', h1, hy, hp⟩)
    have hlen : ((List.range len).map Y).length = len := by simp
    refine ⟨some a, cap, (List.range len).map Y, by rw [hlen], by rw [hlen]; exact hl, by rw [hlen]; omega, ⟨rfl, by rw [hlen]; omega, fun _ => ⟨a, rfl, fun j q hj => ?_⟩⟩, fun y hy => ?_⟩
    · obtain ⟨hj1, hj2⟩ := List.getElem?_eq_some_iff.1 hj
      rw [hlen] at hj1
      simp only [List.getElem_map, List.getElem_range] at hj2
      subst hj2
      obtain ⟨cs', h1, h2, _⟩ := hY j hj1
      obtain ⟨_, g1, g2⟩ := World.cells?_some h1
      refine ⟨cs', by rw [g1, hc], h2, fun i u hu => ?_⟩
      have := g2 i (by rw [← g1]; exact (List.getElem?_eq_some_iff.1 hu).1)
      rw [Go.Deep.add_add, hc, hu] at this
      exact this
    · obtain ⟨j, hj, rfl⟩ := List.mem_map.mp hy
      obtain ⟨_, _, _, hp⟩ := hY j (List.mem_range.mp hj)
      exact hp
theorem open_intsR {P : Program} {H : Type} {enc : TypeId × Value → H} {W : World} {k : IntKind} {t e : TypeId} {fuel : Nat} {cs : List Value} {x : DataW H × List MemPlace} (ht : P.underlying t = some (.slice e)) (he : P.underlying e = some (.int k)) (hc : P.cellsOf e = 1) (h : DataW.trod enc P W 0 (fun _ => true) true fuel t cs = some x) :
    ∃ (A : Option Addr) (c : Nat) (l : List Int), cs = [.slice A l.length c] ∧ l.length ≤ c ∧ (l.length : Int) ≤ 9223372036854775807 ∧ (Kd.int k).C W A l.length l ∧ ∀ y ∈ l, (Lit.int k y).wf = true :=
  open_rowP ht hc (fun fuel cs x h => by
    obtain ⟨s, rfl, _, hs⟩ := DataW.trod_int he h
    exact ⟨s, rfl, hs⟩) h
end Go.Proofs.YtdgmkfbmeaalpaaDoor.Pur
end
section
namespace Go.Proofs.YtdgmkfbmeaalpaaDoor.Pur
open Go
variable {H : Type} {enc : TypeId × Value → H}
theorem handed_shaped_and {a : Assume} {C : Checked} {os : Os} {f : FuncId} {fn : Func} {s : ChangeSpec} {conds : List PathCond} {apart fresh handsOn again : Bool} {X : World → Array Value → Prop}
    (hX : ∀ (w w' : World) (args : Array Value), w.heap = w'.heap → X w args → X w' args)
    (own : ownKnob C.prog.godebug = none) (started : os.Started) (noInit : C.prog.inits.idxOf? f = none) (hfn : C.prog.funcs[f]? = some fn)
    (witness : ∃ (w : World) (tape : Tape) (i : Input), w.os = os ∧ (w.forCall tape i).Shaped C.prog ∧ i.vars = [] ∧ Input.okWide C.prog (w.forCall tape i) .any w.heap.size f i ∧
      ((s.pre enc C.prog fn conds apart (w.forCall tape i).memory i.args ∧ X (w.forCall tape i).memory i.args) ∧ sizedMet enc C.prog fn (OpenSpec.ofChange s) apart (w.forCall tape i).memory i.args) ∧ a.holds C.prog (lone (Frame.enter C.prog f i.args .normal) [] (w.forCall tape i)))
    (contract : ∀ (W : World) (base : Nat) (args : Array Value) (ds gs : List (DataW H)) (before : List MemPlace),
      (∀ (j : Nat) t v, fn.params[j]? = some t → args[j]? = some v → Value.okWide C.prog W .any base t v) →
      DataW.Whole enc C.prog fn.params.toList s.vars apart W args.toList ds gs before →
      conds.all (PathCond.test C.prog ⟨fn.params.toList, ds, s.plain.varTypes C.prog, gs⟩) = true →
      (DataW.weightsEach C.prog (fn.params.toList ++ s.plain.varTypes C.prog) (ds ++ gs)).all (· ≤ reachBytes) = true → X W args → W.ShapedOpen C.prog →
      a.holds C.prog (lone (Frame.enter C.prog f args .normal) [] W) →
      Calls C.prog f args W fun e W' => ∃ v, e = .returned v ∧ s.post enc C.prog fn apart fresh handsOn again W args v W') :
    ReturnsInHanded a C os f .any (fun w args => (s.pre enc C.prog fn conds apart w args ∧ X w args) ∧ sizedMet enc C.prog fn (OpenSpec.ofChange s) apart w args) (s.post enc C.prog fn apart fresh handsOn again) := by
  refine returnsInHanded_of_calls own started noInit witness ?_
  intro w tape i _ hsh _ hok hpre hholds
  obtain ⟨_, _, _, fn', hfn', _, _, _, _, hval⟩ := hok
  have e : fn' = fn := Option.some.inj (hfn'.symm.trans hfn)
  subst e
  obtain ⟨⟨⟨ds, gs, before, hw, hc⟩, hx⟩, hz⟩ := hpre
  have hw' := DataW.Whole.of_heap (w' := w.forCall tape i) (by rfl) hw
  refine (contract (w.forCall tape i) w.heap.size i.args ds gs before hval hw' hc (hz.weights hw) (hX _ _ _ (by rfl) hx) hsh hholds).mono fun e W' ⟨v, he, hp⟩ => ?_
  subst he
  exact ChangeSpec.post_blind hp
end Go.Proofs.YtdgmkfbmeaalpaaDoor.Pur
end
section
namespace Go.Proofs.YtdgmkfbmeaalpaaDoor.Pur
open Go.Proofs.YtdgmkfbmeaalpaaDoor.E Go Go.RowKit
theorem laid_mem {P : Program} {W : World} {n : String} {d : DataW Unit} : ∀ {l : List (String × DataW Unit)} {ps : List MemPlace}, DataW.LaidVars P W l ps → (n, d) ∈ l →
    ∃ g t cs fuel p, P.globalNamed n = some g ∧ (P.globals[g]?).map (·.type) = some t ∧ W.var? P n = some cs ∧ DataW.trod (fun _ => ()) P W 0 (fun _ => true) false fuel t cs.toList = some (d, p)
  | [], _, _, h => by cases h
  | (n', d') :: r, ps, ⟨g, t, cs, fuel, p, q, h1, h2, h3, h4, h5, _⟩, h => by
    rcases List.mem_cons.mp h with e | e
    · cases e
      exact ⟨g, t, cs, fuel, p, h1, h2, h3, h4⟩
    · exact laid_mem h5 e
theorem vars_cons {H : Type} {enc : TypeId × Value → H} {P : Program} {w : World} {sp : Nat → Bool} {n : String} {ns : List String} {gs : List (DataW H)} {ps : List MemPlace} (h : DataW.TrodVars enc P w sp (n :: ns) gs ps) : ∃ g gs' q, gs = g :: gs' ∧ DataW.TrodVars enc P w sp ns gs' q := by
  cases gs with
  | nil => exact h.elim
  | cons g r =>
    obtain ⟨_, _, _, _, _, q, _, _, _, _, hs, _⟩ := h
    exact ⟨g, r, q, rfl, hs⟩
theorem vars_nil {H : Type} {enc : TypeId × Value → H} {P : Program} {w : World} {sp : Nat → Bool} {gs : List (DataW H)} {ps : List MemPlace} (h : DataW.TrodVars enc P w sp [] gs ps) : gs = [] := by
  cases gs with
  | nil => rfl
  | cons _ _ => exact h.elim
theorem laid_vars {P : Program} {l : List (String × DataW Unit)} {W : World} (h : laidMetH P l W) (hp : (l.all fun x => x.2.handleName?.isNone) = true) : ∃ ps, DataW.LaidVars P W l ps := by
  rw [MakeChecks.laidMetH_plain _ _ _ hp] at h
  obtain ⟨ps, h, _⟩ := h
  exact ⟨ps, h⟩
theorem seven {l : List Value} (h : l.length = 7) : ∃ c0 c1 c2 c3 c4 c5 c6, l = [c0, c1, c2, c3, c4, c5, c6] := by
  match l, h with
  | [a, b, c, d, e, f, g], _ => exact ⟨a, b, c, d, e, f, g, rfl⟩
theorem cells_i : Tryd.prog.cellsOf 3 = 1 := by kernel_rfl
theorem cells_i7 : Tryd.prog.cellsOf 132 = 7 := by kernel_rfl
def heights7 : Array Value := #[.int .i64 0, .int .i64 2, .int .i64 4, .int .i64 5, .int .i64 7, .int .i64 9, .int .i64 10]
theorem heights_cells {W : World} {l : List (String × DataW Unit)} {ps : List MemPlace} (h : DataW.LaidVars Tryd.prog W l ps) (hm : ("loop.example/neumes/impl.letterHeights", Rows.laid_loop_example_neumes_impl_letterHeights) ∈ l) :
    W.var? Tryd.prog "loop.example/neumes/impl.letterHeights" = some heights7 := by
  obtain ⟨g, t, cs, fuel, p, hg, ht, hvar, hd⟩ := laid_mem h hm
  obtain rfl := Option.some.inj ((show Tryd.prog.globalNamed "loop.example/neumes/impl.letterHeights" = some 0 by kernel_rfl).symm.trans hg)
  obtain rfl := Option.some.inj ((show (Tryd.prog.globals[0]?).map (·.type) = some 132 by kernel_rfl).symm.trans ht)
  rw [hvar]
  congr 1
  obtain ⟨l⟩ := cs
  cases fuel with
  | zero => simp [DataW.trod] at hd
  | succ fuel =>
    simp only [DataW.trod, Tryd.underlying132, cells_i7, cells_i] at hd
    split at hd
    · rename_i hl
      obtain ⟨c0, c1, c2, c3, c4, c5, c6, rfl⟩ := seven hl
      have e : List.range 7 = [0, 1, 2, 3, 4, 5, 6] := rfl
      rw [e] at hd
      simp only [Option.map_eq_some_iff, List.mapM_cons, List.mapM_nil, Option.bind_eq_bind, Option.bind_eq_some_iff, Option.pure_def, Option.some.injEq] at hd
      obtain ⟨xs, ⟨y0, h0, _, ⟨y1, h1, _, ⟨y2, h2, _, ⟨y3, h3, _, ⟨y4, h4, _, ⟨y5, h5, _, ⟨y6, h6, _, rfl, rfl⟩, rfl⟩, rfl⟩, rfl⟩, rfl⟩, rfl⟩, rfl⟩, hx⟩ := hd
      obtain ⟨n0, e0, rfl, _⟩ := DataW.trod_int Tryd.underlying3 h0
      obtain ⟨n1, e1, rfl, _⟩ := DataW.trod_int Tryd.underlying3 h1
      obtain ⟨n2, e2, rfl, _⟩ := DataW.trod_int Tryd.underlying3 h2
      obtain ⟨n3, e3, rfl, _⟩ := DataW.trod_int Tryd.underlying3 h3
      obtain ⟨n4, e4, rfl, _⟩ := DataW.trod_int Tryd.underlying3 h4
      obtain ⟨n5, e5, rfl, _⟩ := DataW.trod_int Tryd.underlying3 h5
      obtain ⟨n6, e6, rfl, _⟩ := DataW.trod_int Tryd.underlying3 h6
      simp at e0 e1 e2 e3 e4 e5 e6
      subst e0 e1 e2 e3 e4 e5 e6
      simp [Rows.laid_loop_example_neumes_impl_letterHeights] at hx
      obtain ⟨⟨rfl, rfl, rfl, rfl, rfl, rfl, rfl⟩, _⟩ := hx
      rfl
    · cases hd
theorem gok_heights {W : World} {l : List (String × DataW Unit)} (h : laidMetH Tryd.prog l W) (hp : (l.all fun x => x.2.handleName?.isNone) = true) (hm : ("loop.example/neumes/impl.letterHeights", Rows.laid_loop_example_neumes_impl_letterHeights) ∈ l) : GOk [1] W := by
  obtain ⟨ps, hv⟩ := laid_vars h hp
  intro n hn
  obtain rfl := List.mem_singleton.mp hn
  intro i hi
  rw [var?_cell (show Tryd.prog.globalNamed "loop.example/neumes/impl.letterHeights" = some 0 by kernel_rfl) (heights_cells hv hm)]
  match i, hi with
  | 0, _ => rfl
  | 1, _ => rfl
  | 2, _ => rfl
  | 3, _ => rfl
  | 4, _ => rfl
  | 5, _ => rfl
  | 6, _ => rfl
  | _ + 7, hi => exact absurd hi (by omega)
theorem gok_and {S T : List Nat} {W : World} (h : GOk S W) (k : GOk T W) : GOk (S ++ T) W := by
  intro n hn
  rcases List.mem_append.mp hn with e | e
  · exact h n e
  · exact k n e
theorem gok0 {W : World} (h : W.ShapedOpen Tryd.prog) : GOk [0] W := by
  intro n hn
  obtain rfl := List.mem_singleton.mp hn
  exact Tryd.laysCut.s1_3 W h
end Go.Proofs.YtdgmkfbmeaalpaaDoor.Pur
end
section
namespace Go.Proofs.YtdgmkfbmeaalpaaDoor.fnPsalmMove
open Go.ChangeShapes Go.WideShapes Go.ChangeAt Go.RowKit
open Go.ChangeMaps (open_string shut_string)
set_option linter.unusedVariables false
theorem own : ownKnob Tryd.prog.godebug = none := by kernel_rfl
theorem laidOut : laidOutB Tryd.prog = true := by kernel_rfl
set_option maxRecDepth 100000 in
theorem lifted (os : Os) (started : os.Started) (H : Type) (enc : TypeId × Value → H) :
    ReturnsInHanded {} Tryd.checked os 14 .any (fun w args => (Rows.fnPsalmMoveSpec.pre enc Tryd.prog Tryd.f14 Rows.fnPsalmMoveRow.domain false w args ∧ laidMetH Tryd.prog Rows.fnPsalmMoveRow.laid w) ∧ sizedMet enc Tryd.prog Tryd.f14 (OpenSpec.ofChange Rows.fnPsalmMoveSpec) false w args) (Rows.fnPsalmMoveSpec.post enc Tryd.prog Tryd.f14 false true false false) := by
  refine Pur.handed_shaped_and (C := Tryd.checked) (X := fun w _ => laidMetH Tryd.prog Rows.fnPsalmMoveRow.laid w) (fun _ _ _ hh h => h.of_heap hh) own started (by kernel_rfl) Tryd.func14
    (ChangeSpec.witness_shaped (enc := enc) (C := Tryd.checked) (os := os) (X := fun w _ => laidMetH Tryd.prog Rows.fnPsalmMoveRow.laid w) false (World.laidAll Tryd.prog os Rows.fnPsalmMoveRow.laid) #[.slice none 0 0, .slice none 0 0] 8 (World.laidAll_os _ _ _) (World.shaped_of_ZipB (by kernel_rfl) (by kernel_rfl)) (by kernel_rfl) (by kernel_rfl) (by kernel_rfl) (by rw [MakeChecks.laidMetH_plain _ _ _ (by kernel_rfl)]; exact laidMet_laidAll _ (by kernel_rfl) (by kernel_rfl))) ?_
  intro W base args ds gs before hval0 hW hcnd hsz0 hL hSh _
  have hsz : (DataW.weightsEach Tryd.prog (Tryd.f14.params.toList ++ Rows.fnPsalmMoveSpec.plain.varTypes Tryd.prog) (ds ++ gs)).all (· ≤ reachBytes) = true := hsz0
  have hval : ∀ (j : Nat) t v, Tryd.f14.params[j]? = some t → args[j]? = some v → Value.okWide Tryd.prog W .any base t v := hval0
  have hW' := hW
  obtain ⟨p, q, hA0, hV, rfl, hfz, hnd⟩ := hW
  have hA : DataW.TrodAll enc Tryd.prog W 0 (fun _ => true) true Tryd.f14.params.toList args.toList ds p := hA0
  rw [Tryd.params14] at hA hval hsz
  obtain ⟨v0, vs0, d0, ds0, p0, q0, hargs, rfl, rfl, h0, r0⟩ := trodAll_cons hA
  obtain ⟨v1, vs1, d1, ds1, p1, q1, rfl, rfl, rfl, h1, r1⟩ := trodAll_cons r0
  obtain ⟨rfl, rfl, rfl⟩ := trodAll_nil r1
  obtain rfl : args = #[v0, v1] := by cases args; simp_all
  obtain ⟨g0, gs0, vq0, rfl, hV0⟩ := Pur.vars_cons hV
  obtain rfl := Pur.vars_nil hV0
  have k0 := h0
  have lt0 : ∀ x ∈ p0, x.block < W.heap.size := by obtain ⟨m, hm⟩ := k0; exact DataW.trod_lt m _ _ _ hm
  obtain ⟨a0, len0, cap0, rfl⟩ := okWide_slice Tryd.underlying22 (hval 0 22 v0 rfl rfl)
  obtain ⟨fuel0, hf0⟩ := h0
  obtain ⟨A0, c0, l0, hcs0, hle0, hm0, hC0, hx0⟩ := Pur.open_intsR Tryd.underlying22 Tryd.underlying5 (by kernel_rfl) hf0
  simp [Value.cells] at hcs0
  obtain ⟨rfl, rfl, rfl⟩ := hcs0
  have k1 := h1
  have lt1 : ∀ x ∈ p1, x.block < W.heap.size := by obtain ⟨m, hm⟩ := k1; exact DataW.trod_lt m _ _ _ hm
  obtain ⟨a1, len1, cap1, rfl⟩ := okWide_slice Tryd.underlying22 (hval 1 22 v1 rfl rfl)
  obtain ⟨fuel1, hf1⟩ := h1
  obtain ⟨A1, c1, l1, hcs1, hle1, hm1, hC1, hx1⟩ := Pur.open_intsR Tryd.underlying22 Tryd.underlying5 (by kernel_rfl) hf1
  simp [Value.cells] at hcs1
  obtain ⟨rfl, rfl, rfl⟩ := hcs1
  clear hA0 hval0 hsz0 hsz
  obtain ⟨k, hk⟩ := Pur.law_mv l0 l1 hm0 hx0 hm1 hx1
  refine (E.laws_FnPsalmMove.calls k _ _ l0 _ _ l1 true W hC0 hle0 hC1 hle1 (Pur.gok_and (Pur.gok0 hSh) (Pur.gok_heights hL (by kernel_rfl) (by first | exact .head _ | exact .tail _ (.head _) | exact .tail _ (.tail _ (.head _)) | exact .tail _ (.tail _ (.tail _ (.head _))) | exact .tail _ (.tail _ (.tail _ (.tail _ (.head _))))))) hk).mono fun e W' ⟨he, bel⟩ => ?_
  subst he
  exact ⟨_, rfl, _, _, _, [], _, _, hW', trodAll_mk1 (shut_bool Tryd.underlying4 _), (trodAll_cons_mk (Below.trod laidOut (by kernel_rfl) (of_decide_eq_true (by kernel_rfl)) k0 bel lt0) (trodAll_cons_mk (Below.trod laidOut (by kernel_rfl) (of_decide_eq_true (by kernel_rfl)) k1 bel lt1) trodAll_mk0)), (Below.trodVars laidOut bel (by kernel_rfl) hV), bel.frame _, fun h => by cases h⟩
set_option maxRecDepth 100000 in
theorem closed : joinedFacts Tryd.prog 14 Tryd.f14 Rows.fnPsalmMoveSpec Rows.fnPsalmMoveRow = true := by
  have hf : (Rows.fnPsalmMoveRow.lifted == Tryd.prog.liftsFinal) = true := by rw [Head.finE]; kernel_rfl
  have hm : (Tryd.prog.make == some Rows.fnPsalmMoveRow.make) = true := by rw [Head.makeE]; kernel_rfl
  unfold joinedFacts
  repeat' (with_reducible refine Head.and_t ?_ ?_)
  all_goals first | with_reducible exact Head.mayE | with_reducible exact hf | with_reducible exact hm | (as_aux_lemma => kernel_rfl)
theorem over : Rows.fnPsalmMoveRow.holds Tryd.pinned (OpenSpec.ofChange Rows.fnPsalmMoveSpec) :=
  OpenClaim.holds_of_wide 14 Tryd.f14 rfl rfl rfl rfl rfl rfl rfl ⟨rfl, rfl, rfl, rfl, rfl⟩ rfl rfl rfl rfl rfl (by kernel_rfl) Tryd.func14 closed
    (of_decide_eq_true (by kernel_rfl)) (by unfold Func.isWrapper; first | (rw [if_pos (by decide +kernel)]; kernel_rfl) | (rw [if_neg (by decide +kernel)]; exact ⟨rfl, rfl⟩))
    (fun os started H enc _ => lifted os started H enc)
theorem card_ : Rows.FnPsalmMoveCardSaid :=
  Claim7.holds_tied_plain_at .later [] [.data, .data, .pinned] true (true, "95c8318e1392eb2a5db7b8b7a99d282c56258e7fe61e0da8e429e6d5d304e4ee") false
    over (fun _ h => by cases h) (by as_aux_lemma => kernel_rfl) (fun _ h => by cases h) fnPsalmMove_row_tie rfl ⟨rfl, rfl⟩ (Head.mainE.trans (by as_aux_lemma => kernel_rfl)) rfl
    (fun f fn hf hfn => by
      obtain rfl : f = 14 := Option.some.inj ((show Tryd.prog.funcNamed "loop.example/neumes/laws.FnPsalmMove" = some 14 by kernel_rfl).symm.trans hf) |>.symm
      obtain rfl : fn = Tryd.f14 := (Option.some.inj (Tryd.func14.symm.trans hfn)).symm
      exact ⟨by kernel_rfl, fun j t ht => by
        rw [Tryd.params14] at ht
        have hm : t ∈ [22, 22] := by simpa using Array.mem_of_getElem? ht
        have hall : ([22, 22].all fun u => !Tryd.prog.wantsStandIn u) = true := by kernel_rfl
        exact (show Tryd.prog.wantsStandIn t = false by simpa using List.all_eq_true.1 hall t hm)⟩)
    (by kernel_rfl)
theorem proved : Rows.FnPsalmMoveCardSaid := card_
#print axioms proved
end Go.Proofs.YtdgmkfbmeaalpaaDoor.fnPsalmMove
namespace Go.Proofs.YtdgmkfbmeaalpaaDoor
theorem fnPsalmMove_holds : Rows.FnPsalmMoveCardSaid := fnPsalmMove.proved
end Go.Proofs.YtdgmkfbmeaalpaaDoor
end
