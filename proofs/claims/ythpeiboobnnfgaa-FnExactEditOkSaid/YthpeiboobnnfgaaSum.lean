/- The cost of an alignment's text: the program and the reference tell the same. -/
import Derived.Test.YthpeiboobnnfgaaDpUse
import Derived.Test.YthpeiboobnnfgaaEx26
import Derived.Test.YthpeiboobnnfgaaEx27
import Derived.Test.YthpeiboobnnfgaaEx28
namespace Go.Proofs.Ythpeiboobnnfgaa.Pur
open Go.RowKit Go.Proofs.YthpeiboobnnfgaaW.PrintWords Go.Proofs.YthpeiboobnnfgaaW.PrintMore Go.Proofs.Ythpeiboobnnfgaa.E Go.Proofs.Ythpeiboobnnfgaa.Ed

/-- What a letter of a text uses of two melodies. -/
def useC (c : Int) (xs ys : List Tn) : Int × Int × Int × Bool := if c = 105 then use1 xs ys else if c = 107 then use2 xs ys else if c = 111 then use3 xs ys else if c = 114 then use4 xs ys else (0, 0, 0, false)
/-- The sum of a text from the place p on, d letters long. -/
def sumT (t : ByteArray) : Nat → Nat → List Tn → List Tn → Int → Int × Bool
  | 0, _, xs, ys, n => (n, decide (xs.length = 0) && decide (ys.length = 0))
  | d + 1, p, xs, ys, n => if (useC (bt t (p : Int)) xs ys).2.2.2 = true then sumT t d (p + 1) (xs.drop (useC (bt t (p : Int)) xs ys).1.toNat) (ys.drop (useC (bt t (p : Int)) xs ys).2.1.toNat) (n + (useC (bt t (p : Int)) xs ys).2.2.1) else (0, false)
/-- The sum, or -1. -/
def ans (s : Int × Bool) : Int := if s.2 = true then s.1 else -1

theorem sumT_go {t : ByteArray} {d p : Nat} {xs ys : List Tn} {n c : Int} {x y : Nat} (h : useC (bt t (p : Int)) xs ys = ((x : Int), (y : Int), c, true)) : sumT t (d + 1) p xs ys n = sumT t d (p + 1) (xs.drop x) (ys.drop y) (n + c) := by
  rw [sumT, h]
  rfl
theorem sumT_end {t : ByteArray} {d p : Nat} {xs ys : List Tn} {n : Int} (h : (useC (bt t (p : Int)) xs ys).2.2.2 = false) : sumT t (d + 1) p xs ys n = (0, false) := by
  rw [sumT, if_neg (by rw [h]; decide)]

theorem use2_same (x y : Tn) (xs ys : List Tn) (h : eqT x y = true) : use2 (x :: xs) (y :: ys) = (((1 : Nat) : Int), ((1 : Nat) : Int), 0, true) := by
  rw [show use2 (x :: xs) (y :: ys) = (1, 1, 0, eqT x y) from rfl, h]; rfl
theorem use2_not (x y : Tn) (xs ys : List Tn) (h : ¬ eqT x y = true) : (use2 (x :: xs) (y :: ys)).2.2.2 = false := by
  rw [show use2 (x :: xs) (y :: ys) = (1, 1, 0, eqT x y) from rfl]
  exact Bool.eq_false_iff.mpr h
theorem use4_same (x y : Tn) (xs ys : List Tn) (h : eqT x y = true) : (use4 (x :: xs) (y :: ys)).2.2.2 = false := by
  rw [show use4 (x :: xs) (y :: ys) = if eqT x y = true then (0, 0, 0, false) else if x.f0 = y.f0 then (1, 1, 1, true) else (1, 1, 3, true) from rfl, if_pos h]
theorem use4_not (x y : Tn) (xs ys : List Tn) (h : ¬ eqT x y = true) : use4 (x :: xs) (y :: ys) = (((1 : Nat) : Int), ((1 : Nat) : Int), (if x.f0 = y.f0 then 1 else 3), true) := by
  rw [show use4 (x :: xs) (y :: ys) = if eqT x y = true then (0, 0, 0, false) else if x.f0 = y.f0 then (1, 1, 1, true) else (1, 1, 3, true) from rfl, if_neg h]
  by_cases h0 : x.f0 = y.f0
  · rw [if_pos h0, if_pos h0]; rfl
  · rw [if_neg h0, if_neg h0]; rfl
theorem use2_nil (xs ys : List Tn) (h : xs.length = 0 ∨ ys.length = 0) : (use2 xs ys).2.2.2 = false := by
  cases xs with
  | nil => rfl
  | cons x xs => cases ys with
    | nil => rfl
    | cons y ys => simp at h
theorem use4_nil (xs ys : List Tn) (h : xs.length = 0 ∨ ys.length = 0) : (use4 xs ys).2.2.2 = false := by
  cases xs with
  | nil => rfl
  | cons x xs => cases ys with
    | nil => rfl
    | cons y ys => simp at h

/-- What is used is there, and costs at most 3. -/
theorem useC_ways (c : Int) (xs ys : List Tn) : (useC c xs ys).2.2.2 = false ∨ ∃ (x y : Nat) (n : Int), useC c xs ys = ((x : Int), (y : Int), n, true) ∧ x ≤ xs.length ∧ y ≤ ys.length ∧ 0 ≤ n ∧ n ≤ 3 := by
  unfold useC
  by_cases c1 : c = 105
  · rw [if_pos c1]
    by_cases h : 0 < ys.length
    · exact .inr ⟨0, 1, 2, use1_true xs ys h, by omega, by omega, by omega, by omega⟩
    · exact .inl (use1_false xs ys (by omega))
  rw [if_neg c1]
  by_cases c2 : c = 107
  · rw [if_pos c2]
    cases xs with
    | nil => exact .inl rfl
    | cons x xs => cases ys with
      | nil => exact .inl rfl
      | cons y ys =>
        by_cases h : eqT x y = true
        · exact .inr ⟨1, 1, 0, use2_same x y xs ys h, by simp, by simp, by omega, by omega⟩
        · exact .inl (use2_not x y xs ys h)
  rw [if_neg c2]
  by_cases c3 : c = 111
  · rw [if_pos c3]
    by_cases h : 0 < xs.length
    · exact .inr ⟨1, 0, 2, use3_true xs ys h, by omega, by omega, by omega, by omega⟩
    · exact .inl (use3_false xs ys (by omega))
  rw [if_neg c3]
  by_cases c4 : c = 114
  · rw [if_pos c4]
    cases xs with
    | nil => exact .inl rfl
    | cons x xs => cases ys with
      | nil => exact .inl rfl
      | cons y ys =>
        by_cases h : eqT x y = true
        · exact .inl (use4_same x y xs ys h)
        · exact .inr ⟨1, 1, _, use4_not x y xs ys h, by simp, by simp, by split <;> omega, by split <;> omega⟩
  rw [if_neg c4]
  exact .inl rfl

/-- The edit of a letter. -/
def edOf (c : Int) : Int := if c = 105 then 1 else if c = 107 then 2 else if c = 111 then 3 else if c = 114 then 4 else 0
theorem edit_of (c : Int) : EvP (fun k => impl_editOf.f k c) (· = edOf c) := by
  unfold impl_editOf.f
  refine EvP.bind (P := (· = [1, 2, 3, 4])) (EvP.con rfl rfl) (fun _ e => ?_)
  subst e
  have row : ∀ (i j : Int) (e v : Int) (Q : Int → Prop), 0 ≤ i → i < 4 → wrap64 (i + 1) = j → rd [1, 2, 3, 4] i = e → en63_letter.f e = some v → (v = c → Q e) → (v ≠ c → EvP (fun k => impl_editOf.l0 k c [1, 2, 3, 4] 4 j) Q) → EvP (fun k => impl_editOf.l0 k c [1, 2, 3, 4] 4 i) Q := by
    intro i j e v Q h0 h4 hj he hv hy hn
    refine EvP.succ ?_
    simp only [impl_editOf.l0]
    refine EvP.yes h4 (EvP.yes h0 (EvP.yes (by simpa using h4) ?_))
    rw [he, hj]
    refine EvP.bind (P := (· = v)) (EvP.con hv rfl) (fun _ e' => ?_)
    subst e'
    exact EvP.ite (fun h => EvP.ret (hy h)) (fun h => hn h)
  show EvP (fun k => impl_editOf.l0 k c [1, 2, 3, 4] 4 0) _
  refine row 0 1 1 105 _ (by omega) (by omega) (w64 (by omega) (by omega)) rfl rfl (fun h => ?_) (fun h1 => ?_)
  · subst h; rfl
  refine row 1 2 2 107 _ (by omega) (by omega) (w64 (by omega) (by omega)) rfl rfl (fun h => ?_) (fun h2 => ?_)
  · subst h; rfl
  refine row 2 3 3 111 _ (by omega) (by omega) (w64 (by omega) (by omega)) rfl rfl (fun h => ?_) (fun h3 => ?_)
  · subst h; rfl
  refine row 3 4 4 114 _ (by omega) (by omega) (w64 (by omega) (by omega)) rfl rfl (fun h => ?_) (fun h4 => ?_)
  · subst h; rfl
  refine EvP.succ ?_
  simp only [impl_editOf.l0]
  refine EvP.no (by decide) (EvP.ret ?_)
  unfold edOf
  rw [if_neg (fun h => h1 h.symm), if_neg (fun h => h2 h.symm), if_neg (fun h => h3 h.symm), if_neg (fun h => h4 h.symm)]

theorem use_none (xs ys : List Tn) : EvP (fun k => impl_useOf.f k 0 xs ys) (· = ((0, 0, 0, false) : Int × Int × Int × Bool)) := by
  have j0 : ∀ B, EvP (fun k => impl_useOf.j0 k 0 xs ys B) (· = ((0, 0, 0, false) : Int × Int × Int × Bool)) := by
    intro B
    refine EvP.succ ?_
    simp only [impl_useOf.j0]
    exact EvP.no (by decide) (EvP.no (by decide) (EvP.no (by decide) (EvP.no (by decide) (EvP.ret rfl))))
  unfold impl_useOf.f
  exact EvP.ite (fun _ => j0 _) (fun _ => j0 _)
theorem use_of (c : Int) (xs ys : List Tn) : EvP (fun k => impl_useOf.f k (edOf c) xs ys) (· = useC c xs ys) := by
  obtain ⟨u1, u2, u3, u4⟩ := use_ok xs ys
  unfold edOf useC
  by_cases c1 : c = 105
  · rw [if_pos c1, if_pos c1]; exact u1
  rw [if_neg c1, if_neg c1]
  by_cases c2 : c = 107
  · rw [if_pos c2, if_pos c2]; exact u2
  rw [if_neg c2, if_neg c2]
  by_cases c3 : c = 111
  · rw [if_pos c3, if_pos c3]; exact u3
  rw [if_neg c3, if_neg c3]
  by_cases c4 : c = 114
  · rw [if_pos c4, if_pos c4]; exact u4
  rw [if_neg c4, if_neg c4]
  exact use_none xs ys

theorem impl_text (t : ByteArray) (ht : t.size ≤ 1048576) : ∀ d p : Nat, p + d = t.size → ∀ (xs ys : List Tn) (n : Int), 0 ≤ n → n ≤ 3 * (p : Int) → EvP (fun k => impl_alignmentSum.l0 k xs ys t n (t.size : Int) (p : Int)) (· = sumT t d p xs ys n) := by
  intro d
  induction d with
  | zero =>
    intro p hp xs ys n n0 n1
    refine EvP.succ ?_
    simp only [impl_alignmentSum.l0]
    refine EvP.no (by omega) (EvP.ite (fun h => EvP.ret ?_) (fun h => EvP.ret ?_))
    · have : xs.length = 0 := by omega
      simp [sumT, this]
      by_cases hy : ys = [] <;> simp [hy]
    · have : ¬ xs.length = 0 := by omega
      have hx : ¬ xs = [] := fun e => this (by rw [e]; rfl)
      simp [sumT, hx]
  | succ d ih =>
    intro p hp xs ys n n0 n1
    refine EvP.succ ?_
    simp only [impl_alignmentSum.l0]
    refine EvP.yes (by omega) (EvP.yes (by omega) (EvP.yes (by omega) ?_))
    refine EvP.bind (edit_of _) (fun _ e => ?_)
    subst e
    refine EvP.bind (use_of _ xs ys) (fun _ e => ?_)
    subst e
    rcases useC_ways (bt t (p : Int)) xs ys with h | ⟨x, y, c, h, hx, hy, c0, c3⟩
    · rw [sumT_end h, h]
      exact EvP.no (by decide) (EvP.ret rfl)
    · rw [sumT_go h, h]
      refine EvP.yes rfl (EvP.yes (by dsimp only; omega) (EvP.yes (by dsimp only; omega) (EvP.yes (by dsimp only; omega) (EvP.yes (by dsimp only; omega) ?_))))
      dsimp only
      rw [w64 (by omega) (by omega), w64 (by omega) (by omega)]
      exact ih (p + 1) (by omega) _ _ (n + c) (by omega) (by omega)

theorem l7_replace (x y : Tn) (h : ¬ eqT x y = true) : spec_l7Replace.f x.f0 x.f1 y.f0 y.f1 = some (if x.f0 = y.f0 then 1 else 3) := by
  unfold spec_l7Replace.f
  by_cases h0 : x.f0 = y.f0
  · by_cases h1 : x.f1 = y.f1
    · exact absurd ((eqT_iff x y).mpr (tn_ext h0 h1)) h
    · rw [if_pos h0, if_neg h1, if_pos h0]
  · rw [if_neg h0, if_neg h0]

section
variable (t : ByteArray) (ht : t.size ≤ 1048576) (a b : List Tn) (ha : a.length ≤ 24) (hb : b.length ≤ 24)
include ht ha hb
theorem spec_letter (d p : Nat) (hp : p + (d + 1) = t.size) (i j : Nat) (hi : i ≤ a.length) (hj : j ≤ b.length) (n : Int) (n0 : 0 ≤ n) (n1 : n ≤ 3 * (p : Int)) (Q : Int → Prop)
    (next : ∀ (x y : Nat) (c : Int), useC (bt t (p : Int)) (a.drop i) (b.drop j) = ((x : Int), (y : Int), c, true) → EvP (fun k => spec_EditSum.l0 k a b t ((i + x : Nat) : Int) ((j + y : Nat) : Int) (n + c) ((p + 1 : Nat) : Int)) Q)
    (stop : (useC (bt t (p : Int)) (a.drop i) (b.drop j)).2.2.2 = false → Q (-1)) (B : Bool) (hB : B = (decide (i < a.length) && decide (j < b.length))) :
    EvP (fun k => spec_EditSum.j2 k a b t (i : Int) (j : Int) n (p : Int) B) Q := by
  have la : (a.drop i).length = a.length - i := List.length_drop
  have lb : (b.drop j).length = b.length - j := List.length_drop
  have w1 : Hd (wrap64 ((p : Int) + 1) = ((p + 1 : Nat) : Int)) := ⟨w64 (by omega) (by omega)⟩
  have w2 : Hd (wrap64 (n + 2) = n + 2) := ⟨w64 (by omega) (by omega)⟩
  have w3 : Hd (wrap64 (i + 1 : Int) = ((i + 1 : Nat) : Int)) := ⟨w64 (by omega) (by omega)⟩
  have w4 : Hd (wrap64 (j + 1 : Int) = ((j + 1 : Nat) : Int)) := ⟨w64 (by omega) (by omega)⟩
  have w5 : ∀ c : Prop, [Decidable c] → Hd (wrap64 (n + (if c then (1 : Int) else 3)) = n + (if c then (1 : Int) else 3)) := by
    intro c _
    exact ⟨w64 (by split <;> omega) (by split <;> omega)⟩
  have hp0 : (0 : Int) ≤ (p : Int) := by omega
  have hp1 : (p : Int) < (t.size : Int) := by omega
  have both : B = true → ∃ (h0 : i < a.length) (h1 : j < b.length), a.drop i = a[i] :: a.drop (i + 1) ∧ b.drop j = b[j] :: b.drop (j + 1) := by
    intro h
    rw [hB, Bool.and_eq_true] at h
    have h0 := of_decide_eq_true h.1
    have h1 := of_decide_eq_true h.2
    exact ⟨h0, h1, List.drop_eq_getElem_cons h0, List.drop_eq_getElem_cons h1⟩
  have none_ : B = false → (a.drop i).length = 0 ∨ (b.drop j).length = 0 := by
    intro h
    rw [hB, Bool.and_eq_false_iff] at h
    rcases h with h | h
    · have := of_decide_eq_false h; exact .inl (by omega)
    · have := of_decide_eq_false h; exact .inr (by omega)
  have iA : i < a.length → (0 : Int) ≤ (i : Int) ∧ (i : Int) < (a.length : Int) := fun h => ⟨by omega, by omega⟩
  have jA : j < b.length → (0 : Int) ≤ (j : Int) ∧ (j : Int) < (b.length : Int) := fun h => ⟨by omega, by omega⟩
  clear ht ha hb n0 n1 hp
  generalize hc : bt t (p : Int) = c at *
  -- r
  have J5 : c = 114 ∨ (useC c (a.drop i) (b.drop j)).2.2.2 = false → EvP (fun k => spec_EditSum.j5 k a b t (i : Int) (j : Int) n (p : Int) B false) Q := by
    intro h
    refine EvP.succ ?_
    simp only [spec_EditSum.j5, hc]
    refine EvP.no (by decide) (EvP.yes hp0 (EvP.yes hp1 (EvP.ite (fun h4 => ?_) (fun h4 => EvP.ret (stop (h.resolve_left h4))))))
    have u4 : useC c (a.drop i) (b.drop j) = use4 (a.drop i) (b.drop j) := by rw [h4]; rfl
    refine EvP.ite (fun hB1 => ?_) (fun hB0 => EvP.ret (stop (by rw [u4]; exact use4_nil _ _ (none_ (Bool.eq_false_iff.mpr hB0)))))
    obtain ⟨h0, h1, ea, eb⟩ := both hB1
    refine EvP.yes (iA h0).1 (EvP.yes (iA h0).2 (EvP.yes (jA h1).1 (EvP.yes (jA h1).2 ?_)))
    rw [rdT_lt h0, rdT_lt h1]
    by_cases he : eqT a[i] b[j] = true
    · refine EvP.no ?_ (EvP.ret (stop (by rw [u4, ea, eb]; exact use4_same _ _ _ _ he)))
      have := (eqT_iff _ _).mp he
      rw [this]; simp
    · refine EvP.yes ?_ ?_
      · have hn : eqT a[i] b[j] = false := Bool.eq_false_iff.mpr he
        unfold eqT at hn
        rw [← Bool.not_and, hn]; rfl
      refine EvP.bind (P := (· = if a[i].f0 = b[j].f0 then 1 else 3)) (EvP.con (l7_replace _ _ he) rfl) (fun _ e => ?_)
      subst e
      rw [w1.out, w3.out, w4.out, (w5 _).out]
      exact next 1 1 _ (by rw [u4, ea, eb]; exact use4_not _ _ _ _ he)
  -- k
  have J4f : c = 107 ∨ c = 114 ∨ (useC c (a.drop i) (b.drop j)).2.2.2 = false → EvP (fun k => spec_EditSum.j4 k a b t (i : Int) (j : Int) n (p : Int) B false) Q := by
    intro h
    refine EvP.succ ?_
    simp only [spec_EditSum.j4, hc]
    refine EvP.no (by decide) (EvP.yes hp0 (EvP.yes hp1 (EvP.ite (fun h4 => ?_) (fun h4 => J5 (h.resolve_left h4)))))
    have u2 : useC c (a.drop i) (b.drop j) = use2 (a.drop i) (b.drop j) := by rw [h4]; rfl
    refine EvP.ite (fun hB1 => ?_) (fun hB0 => J5 (.inr (by rw [u2]; exact use2_nil _ _ (none_ (Bool.eq_false_iff.mpr hB0)))))
    obtain ⟨h0, h1, ea, eb⟩ := both hB1
    refine EvP.yes (iA h0).1 (EvP.yes (iA h0).2 (EvP.yes (jA h1).1 (EvP.yes (jA h1).2 ?_)))
    rw [rdT_lt h0, rdT_lt h1]
    show EvP (fun k => spec_EditSum.j5 k a b t (i : Int) (j : Int) n (p : Int) B (eqT a[i] b[j])) Q
    by_cases he : eqT a[i] b[j] = true
    · rw [he]
      refine EvP.succ ?_
      simp only [spec_EditSum.j5]
      refine EvP.yes trivial ?_
      rw [w1.out, w3.out, w4.out]
      have := next 1 1 0 (by rw [u2, ea, eb]; exact use2_same _ _ _ _ he)
      rwa [Int.add_zero] at this
    · rw [Bool.eq_false_iff.mpr he]
      exact J5 (.inr (by rw [u2, ea, eb]; exact use2_not _ _ _ _ he))
  -- o
  have J3f : c ≠ 105 ∨ (useC c (a.drop i) (b.drop j)).2.2.2 = false → EvP (fun k => spec_EditSum.j3 k a b t (i : Int) (j : Int) n (p : Int) B false) Q := by
    intro h
    refine EvP.succ ?_
    simp only [spec_EditSum.j3, hc]
    refine EvP.no (by decide) (EvP.yes hp0 (EvP.yes hp1 (EvP.ite (fun h4 => ?_) (fun h4 => J4f ?_))))
    · have u3 : useC c (a.drop i) (b.drop j) = use3 (a.drop i) (b.drop j) := by rw [h4]; rfl
      by_cases h0 : i < a.length
      · rw [decide_eq_true (iA h0).2]
        refine EvP.succ ?_
        simp only [spec_EditSum.j4]
        refine EvP.yes trivial ?_
        rw [w1.out, w2.out, w3.out]
        exact next 1 0 2 (by rw [u3]; exact use3_true _ _ (by omega))
      · rw [decide_eq_false (by omega)]
        exact J4f (.inr (.inr (by rw [u3]; exact use3_false _ _ (by omega))))
    · by_cases c2 : c = 107
      · exact .inl c2
      by_cases c4 : c = 114
      · exact .inr (.inl c4)
      rcases h with h | h
      · exact .inr (.inr (by unfold useC; rw [if_neg h, if_neg c2, if_neg h4, if_neg c4]))
      · exact .inr (.inr h)
  -- i
  refine EvP.succ ?_
  simp only [spec_EditSum.j2, hc]
  refine EvP.yes hp0 (EvP.yes hp1 (EvP.ite (fun h4 => ?_) (fun h4 => J3f (.inl h4))))
  have u1 : useC c (a.drop i) (b.drop j) = use1 (a.drop i) (b.drop j) := by rw [h4]; rfl
  by_cases h0 : j < b.length
  · rw [decide_eq_true (jA h0).2]
    refine EvP.succ ?_
    simp only [spec_EditSum.j3]
    refine EvP.yes trivial ?_
    rw [w1.out, w2.out, w4.out]
    exact next 0 1 2 (by rw [u1]; exact use1_true _ _ (by omega))
  · rw [decide_eq_false (by omega)]
    exact J3f (.inr (by rw [u1]; exact use1_false _ _ (by omega)))

theorem spec_text : ∀ d p : Nat, p + d = t.size → ∀ (i j : Nat) (n : Int), i ≤ a.length → j ≤ b.length → 0 ≤ n → n ≤ 3 * (p : Int) → EvP (fun k => spec_EditSum.l0 k a b t (i : Int) (j : Int) n (p : Int)) (· = ans (sumT t d p (a.drop i) (b.drop j) n)) := by
  intro d
  induction d with
  | zero =>
    intro p hp i j n hi hj n0 n1
    refine EvP.succ ?_
    simp only [spec_EditSum.l0]
    refine EvP.no (by omega) (EvP.ite (fun h => EvP.ret ?_) (fun h => EvP.ite (fun h2 => EvP.ret ?_) (fun h2 => EvP.ret ?_)))
    · have : ¬ a.length - i = 0 := by omega
      simp [sumT, ans, this]
    · have : ¬ b.length - j = 0 := by omega
      simp [sumT, ans, this]
    · have h3 : a.length - i = 0 := by omega
      have h4 : b.length - j = 0 := by omega
      simp [sumT, ans, h3, h4]
  | succ d ih =>
    intro p hp i j n hi hj n0 n1
    refine EvP.succ ?_
    simp only [spec_EditSum.l0]
    refine EvP.yes (by omega) ?_
    have st := spec_letter t ht a b ha hb d p hp i j hi hj n n0 n1 (· = ans (sumT t (d + 1) p (a.drop i) (b.drop j) n)) (fun x y c h => ?_) (fun h => ?_)
    · refine EvP.ite (fun h => ?_) (fun h => ?_)
      · have : i < a.length := by omega
        refine st _ ?_
        by_cases h2 : j < b.length <;> simp [this, h2]
      · have : ¬ i < a.length := by omega
        refine st _ ?_
        simp [this]
    · rw [sumT_go h, List.drop_drop, List.drop_drop]
      have la : (a.drop i).length = a.length - i := List.length_drop
      have lb : (b.drop j).length = b.length - j := List.length_drop
      rcases useC_ways (bt t (p : Int)) (a.drop i) (b.drop j) with g | ⟨x', y', c', g, hx, hy, c0, c3⟩
      · rw [h] at g; exact absurd g (by simp)
      · rw [h] at g
        simp only [Prod.mk.injEq] at g
        obtain ⟨g1, g2, g3, _⟩ := g
        exact ih (p + 1) (by omega) (i + x) (j + y) (n + c) (by omega) (by omega) (by omega) (by omega)
    · rw [sumT_end h]; rfl
end

/-- The cost of an alignment's text, and if it is one. -/
def sumOf (a b : List Tn) (t : ByteArray) : Int × Bool := if okM a = true ∧ okM b = true then sumT t t.size 0 a b 0 else (0, false)
theorem okM_long {a : List Tn} (h : okM a = true) : a.length ≤ 24 := by
  unfold okM at h
  rw [Bool.and_eq_true] at h
  exact of_decide_eq_true h.2

theorem spec_sum (a b : List Tn) (t : ByteArray) (ht : t.size ≤ 1048576) (ha : a.length < 9223372036854775807) (hb : b.length < 9223372036854775807) : EvP (fun k => spec_EditSum.f k a b t) (· = ans (sumOf a b t)) := by
  unfold spec_EditSum.f sumOf
  have jt : ∀ v : Int, v = -1 → EvP (fun k => spec_EditSum.j0 k a b t true) (· = v) := by
    intro v hv
    refine EvP.succ ?_
    simp only [spec_EditSum.j0]
    exact EvP.yes (by simp) (EvP.ret hv.symm)
  refine EvP.bind (P := (· = okM a)) (spec_melody a ha) (fun _ e => ?_)
  subst e
  refine EvP.ite (fun h1 => ?_) (fun h1 => jt _ (by rw [if_neg (fun h => h1 h.1)]; rfl))
  refine EvP.bind (P := (· = okM b)) (spec_melody b hb) (fun _ e => ?_)
  subst e
  by_cases h2 : okM b = true
  · rw [if_pos ⟨h1, h2⟩, h2]
    refine EvP.succ ?_
    simp only [spec_EditSum.j0, Bool.not_true]
    refine EvP.no (by simp) ?_
    exact spec_text t ht a b (okM_long h1) (okM_long h2) t.size 0 (by omega) 0 0 0 (by omega) (by omega) (by omega) (by omega)
  · rw [Bool.eq_false_iff.mpr h2]
    exact jt _ (by rw [if_neg (fun h => Bool.noConfusion h.2)]; rfl)

theorem impl_asum (a b : List Tn) (t : ByteArray) (ht : t.size ≤ 1048576) : EvP (fun k => impl_alignmentSum.f k a b t) (· = sumOf a b t) := by
  unfold impl_alignmentSum.f sumOf
  have jt : ∀ v : Int × Bool, v = (0, false) → EvP (fun k => impl_alignmentSum.j0 k a b t true) (· = v) := by
    intro v hv
    refine EvP.succ ?_
    simp only [impl_alignmentSum.j0]
    exact EvP.yes (by simp) (EvP.ret hv.symm)
  refine EvP.bind (P := (· = okM a)) (impl_melody a) (fun _ e => ?_)
  subst e
  refine EvP.ite (fun h1 => ?_) (fun h1 => jt _ (by rw [if_neg (fun h => h1 h.1)]))
  refine EvP.bind (P := (· = okM b)) (impl_melody b) (fun _ e => ?_)
  subst e
  by_cases h2 : okM b = true
  · rw [if_pos ⟨h1, h2⟩, h2]
    refine EvP.succ ?_
    simp only [impl_alignmentSum.j0, Bool.not_true]
    refine EvP.no (by simp) ?_
    exact impl_text t ht t.size 0 (by omega) a b 0 (by omega) (by omega)
  · rw [Bool.eq_false_iff.mpr h2]
    exact jt _ (by rw [if_neg (fun h => Bool.noConfusion h.2)])
end Go.Proofs.Ythpeiboobnnfgaa.Pur
