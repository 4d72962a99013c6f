/- The plain laws of alignments of two lists with prices: no program in sight. -/
import Derived.RowKit
namespace Go.Proofs.Ythpeiboobnnfgaa.Ed

/-- The prices of edits: of an element put in, of one left out, and of going on with two. -/
structure Pr (α : Type) where
  ins : Int
  om : Int
  both : α → α → Int

section
variable {α : Type}

/-- The least sum of prices of all alignments. -/
def least (p : Pr α) : List α → List α → Int
  | [], [] => 0
  | [], _ :: bs => p.ins + least p [] bs
  | _ :: as, [] => p.om + least p as []
  | a :: as, b :: bs => min (min (p.ins + least p (a :: as) bs) (p.om + least p as (b :: bs))) (p.both a b + least p as bs)
termination_by a b => a.length + b.length

theorem least_nn (p : Pr α) : least p [] [] = 0 := by rw [least]
theorem least_nc (p : Pr α) (b : α) (bs : List α) : least p [] (b :: bs) = p.ins + least p [] bs := by rw [least]
theorem least_cn (p : Pr α) (a : α) (as : List α) : least p (a :: as) [] = p.om + least p as [] := by rw [least]
theorem least_cc (p : Pr α) (a b : α) (as bs : List α) : least p (a :: as) (b :: bs) = min (min (p.ins + least p (a :: as) bs) (p.om + least p as (b :: bs))) (p.both a b + least p as bs) := by rw [least]

/-- An alignment and its sum. -/
inductive Al (p : Pr α) : List α → List α → Int → Prop
  | nil : Al p [] [] 0
  | ins (b : α) {as bs : List α} {n : Int} : Al p as bs n → Al p as (b :: bs) (p.ins + n)
  | om (a : α) {as bs : List α} {n : Int} : Al p as bs n → Al p (a :: as) bs (p.om + n)
  | both (a b : α) {as bs : List α} {n : Int} : Al p as bs n → Al p (a :: as) (b :: bs) (p.both a b + n)

theorem Al.eq {p : Pr α} {as bs : List α} {n m : Int} (h : Al p as bs n) (e : n = m) : Al p as bs m := e ▸ h

theorem least_le_ins (p : Pr α) (b : α) (as bs : List α) : least p as (b :: bs) ≤ p.ins + least p as bs := by
  cases as with
  | nil => rw [least_nc]; exact Int.le_refl _
  | cons a as => rw [least_cc]; omega

theorem least_le_om (p : Pr α) (a : α) (as bs : List α) : least p (a :: as) bs ≤ p.om + least p as bs := by
  cases bs with
  | nil => rw [least_cn]; exact Int.le_refl _
  | cons b bs => rw [least_cc]; omega

theorem least_le_both (p : Pr α) (a b : α) (as bs : List α) : least p (a :: as) (b :: bs) ≤ p.both a b + least p as bs := by
  rw [least_cc]; omega

theorem Al.le {p : Pr α} {as bs : List α} {n : Int} (h : Al p as bs n) : least p as bs ≤ n := by
  induction h with
  | nil => rw [least_nn]; exact Int.le_refl _
  | ins b _ ih => have := least_le_ins p b; rename_i as bs n _; have := this as bs; omega
  | om a _ ih => have := least_le_om p a; rename_i as bs n _; have := this as bs; omega
  | both a b _ ih => have := least_le_both p a b; rename_i as bs n _; have := this as bs; omega

theorem Al.least (p : Pr α) : ∀ as bs : List α, Al p as bs (least p as bs)
  | [], [] => by rw [least_nn]; exact .nil
  | [], b :: bs => by rw [least_nc]; exact .ins b (Al.least p [] bs)
  | a :: as, [] => by rw [least_cn]; exact .om a (Al.least p as [])
  | a :: as, b :: bs => by
    have h1 := Al.ins b (Al.least p (a :: as) bs)
    have h2 := Al.om a (Al.least p as (b :: bs))
    have h3 := Al.both (p := p) a b (Al.least p as bs)
    rw [least_cc]
    rcases Int.le_total (p.ins + Ed.least p (a :: as) bs) (p.om + Ed.least p as (b :: bs)) with g | g
    · rcases Int.le_total (p.ins + Ed.least p (a :: as) bs) (p.both a b + Ed.least p as bs) with g' | g'
      · exact h1.eq (by omega)
      · exact h3.eq (by omega)
    · rcases Int.le_total (p.om + Ed.least p as (b :: bs)) (p.both a b + Ed.least p as bs) with g' | g'
      · exact h2.eq (by omega)
      · exact h3.eq (by omega)
termination_by as bs => as.length + bs.length

theorem least_eq {p : Pr α} {as bs : List α} {n : Int} (h : Al p as bs n) (hl : n ≤ least p as bs) : least p as bs = n := Int.le_antisymm h.le hl

theorem Al.append {p : Pr α} {as bs as' bs' : List α} {n m : Int} (h : Al p as bs n) (k : Al p as' bs' m) : Al p (as ++ as') (bs ++ bs') (n + m) := by
  induction h with
  | nil => exact k.eq (by omega)
  | ins b _ ih => exact (Al.ins b ih).eq (by omega)
  | om a _ ih => exact (Al.om a ih).eq (by omega)
  | both a b _ ih => exact (Al.both a b ih).eq (by omega)

theorem Al.rev {p : Pr α} {as bs : List α} {n : Int} (h : Al p as bs n) : Al p as.reverse bs.reverse n := by
  induction h with
  | nil => exact .nil
  | ins b _ ih => have := ih.append (Al.ins b (Al.nil (p := p))); rw [List.append_nil] at this; rw [List.reverse_cons]; exact this.eq (by omega)
  | om a _ ih => have := ih.append (Al.om a (Al.nil (p := p))); rw [List.append_nil] at this; rw [List.reverse_cons]; exact this.eq (by omega)
  | both a b _ ih => have := ih.append (Al.both a b (Al.nil (p := p))); rw [List.reverse_cons, List.reverse_cons]; exact this.eq (by omega)

theorem least_rev (p : Pr α) (as bs : List α) : least p as.reverse bs.reverse = least p as bs := by
  refine Int.le_antisymm (Al.least p as bs).rev.le ?_
  have := (Al.least p as.reverse bs.reverse).rev.le
  rwa [List.reverse_reverse, List.reverse_reverse] at this

theorem Al.swap {p : Pr α} (h1 : p.ins = p.om) (h2 : ∀ a b, p.both a b = p.both b a) {as bs : List α} {n : Int} (h : Al p as bs n) : Al p bs as n := by
  induction h with
  | nil => exact .nil
  | ins b _ ih => exact (Al.om b ih).eq (by omega)
  | om a _ ih => exact (Al.ins a ih).eq (by omega)
  | both a b _ ih => exact (Al.both b a ih).eq (by rw [h2])

theorem least_comm {p : Pr α} (h1 : p.ins = p.om) (h2 : ∀ a b, p.both a b = p.both b a) (as bs : List α) : least p as bs = least p bs as :=
  Int.le_antisymm ((Al.least p bs as).swap h1 h2).le ((Al.least p as bs).swap h1 h2).le

/-- The end of the lists as their beginning. -/
theorem least_snoc (p : Pr α) (a b : α) (as bs : List α) : least p (as ++ [a]) (bs ++ [b]) = min (min (p.ins + least p (as ++ [a]) bs) (p.om + least p as (bs ++ [b]))) (p.both a b + least p as bs) := by
  rw [← least_rev p (as ++ [a]) (bs ++ [b]), ← least_rev p (as ++ [a]) bs, ← least_rev p as (bs ++ [b]), ← least_rev p as bs]
  simp only [List.reverse_append, List.reverse_cons, List.reverse_nil, List.nil_append, List.singleton_append]
  rw [least_cc]

theorem least_nil (p : Pr α) : ∀ bs : List α, least p [] bs = p.ins * bs.length
  | [] => by rw [least_nn]; simp
  | b :: bs => by rw [least_nc, least_nil p bs, List.length_cons]; rw [show ((bs.length + 1 : Nat) : Int) = (bs.length : Int) + 1 from rfl, Int.mul_add]; omega

theorem least_nil' (p : Pr α) : ∀ as : List α, least p as [] = p.om * as.length
  | [] => by rw [least_nn]; simp
  | a :: as => by rw [least_cn, least_nil' p as, List.length_cons]; rw [show ((as.length + 1 : Nat) : Int) = (as.length : Int) + 1 from rfl, Int.mul_add]; omega

end

/-! ### Costs -/
section
variable {α : Type}
/-- A cost of going on with two: 0 for equal ones, else 1 to 3; putting in and leaving out cost 2. -/
structure Cost (p : Pr α) : Prop where
  ins : p.ins = 2
  om : p.om = 2
  same : ∀ a, p.both a a = 0
  differ : ∀ a b, p.both a b = 0 → a = b
  le : ∀ a b, 0 ≤ p.both a b ∧ p.both a b ≤ 3
  comm : ∀ a b, p.both a b = p.both b a

variable {p : Pr α}

theorem Cost.nonneg (c : Cost p) {as bs : List α} {n : Int} (h : Al p as bs n) : 0 ≤ n := by
  induction h with
  | nil => exact Int.le_refl _
  | ins b _ ih => have := c.ins; omega
  | om a _ ih => have := c.om; omega
  | both a b _ ih => have := c.le a b; omega

theorem Cost.least_nonneg (c : Cost p) (as bs : List α) : 0 ≤ least p as bs := c.nonneg (Al.least p as bs)

theorem Cost.zero (c : Cost p) {as bs : List α} {n : Int} (h : Al p as bs n) : n = 0 → as = bs := by
  induction h with
  | nil => intro _; rfl
  | ins b h ih => intro e; have := c.ins; have := c.nonneg h; omega
  | om a h ih => intro e; have := c.om; have := c.nonneg h; omega
  | both a b h ih =>
    intro e
    have h1 := c.le a b
    have h2 := c.nonneg h
    rw [c.differ a b (by omega), ih (by omega)]

theorem Cost.self (c : Cost p) : ∀ as : List α, least p as as = 0
  | [] => least_nn p
  | a :: as => by
    have h := least_le_both p a a as as
    rw [c.same, c.self as] at h
    have := c.least_nonneg (a :: as) (a :: as)
    omega

theorem Cost.least_zero (c : Cost p) (as bs : List α) : least p as bs = 0 ↔ as = bs :=
  ⟨fun h => c.zero (Al.least p as bs) h, fun h => by rw [h]; exact c.self bs⟩

theorem Cost.lengths (c : Cost p) {as bs : List α} {n : Int} (h : Al p as bs n) : 2 * ((as.length : Int) - bs.length) ≤ n := by
  induction h with
  | nil => simp
  | ins b _ ih => have := c.ins; rw [List.length_cons]; omega
  | om a _ ih => have := c.om; rw [List.length_cons]; omega
  | both a b _ ih => have := c.le a b; rw [List.length_cons, List.length_cons]; omega

/-- Over a beginning of the first list. -/
theorem Cost.over (c : Cost p) (as bs : List α) (k : Nat) : least p as bs ≤ least p as (as.take k) + least p (as.take k) bs := by
  have h1 := c.lengths (Al.least p as (as.take k))
  have h2 := ((Al.least p (as.take k) bs).append (Al.least p (as.drop k) [])).le
  rw [List.take_append_drop, List.append_nil, least_nil', c.om] at h2
  have h3 : ((as.drop k).length : Int) = as.length - (as.take k).length := by
    have := congrArg List.length (List.take_append_drop k as)
    rw [List.length_append] at this
    omega
  omega

theorem Cost.drop_first (c : Cost p) : ∀ {as' bs : List α} {n : Int}, Al p as' bs n → ∀ (t : α) (as : List α), as' = t :: as → ∃ m, Al p as bs m ∧ m ≤ n + 2 := by
  intro as' bs n h
  induction h with
  | nil => intro t as e; cases e
  | ins b _ ih => intro t as e; obtain ⟨m, hm, hl⟩ := ih t as e; exact ⟨_, Al.ins b hm, by omega⟩
  | om a h ih => intro t as e; cases e; exact ⟨_, h, by have := c.om; omega⟩
  | both a b h ih => intro t as e; cases e; exact ⟨_, Al.ins b h, by have := c.ins; have := c.le a b; omega⟩

theorem Cost.first_alone (c : Cost p) (t : α) (as bs : List α) : least p (t :: as) bs ≤ least p as bs + 2 ∧ least p as bs ≤ least p (t :: as) bs + 2 := by
  refine ⟨by have := least_le_om p t as bs; have := c.om; omega, ?_⟩
  obtain ⟨m, hm, hl⟩ := c.drop_first (Al.least p (t :: as) bs) t as rfl
  have := hm.le
  omega

theorem Cost.first_both (c : Cost p) (t : α) (as bs : List α) : least p (t :: as) (t :: bs) = least p as bs := by
  refine Int.le_antisymm ?_ ?_
  · have := least_le_both p t t as bs; rw [c.same] at this; omega
  · have h1 := (c.first_alone t as bs).2
    have h2 := (c.first_alone t bs as).2
    rw [least_comm (by rw [c.ins, c.om]) c.comm bs as, least_comm (by rw [c.ins, c.om]) c.comm (t :: bs) as] at h2
    rw [least_cc, c.ins, c.om, c.same]
    omega
end

/-! ### What is common -/
section
variable {α : Type}
/-- 1 less for two equal ones. -/
structure Common (q : Pr α) : Prop where
  ins : q.ins = 0
  om : q.om = 0
  same : ∀ a, q.both a a = -1
  differ : ∀ a b, a ≠ b → q.both a b = 0
  comm : ∀ a b, q.both a b = q.both b a

variable {q : Pr α}
theorem Common.both (c : Common q) (a b : α) : q.both a b = 0 ∨ q.both a b = -1 ∧ a = b := by
  by_cases h : a = b
  · subst h; exact .inr ⟨c.same a, rfl⟩
  · exact .inl (c.differ a b h)

theorem Common.le_first (c : Common q) {as bs : List α} {n : Int} (h : Al q as bs n) : -n ≤ as.length := by
  induction h with
  | nil => simp
  | ins b _ ih => have := c.ins; omega
  | om a _ ih => have := c.om; rw [List.length_cons]; omega
  | both a b _ ih => rw [List.length_cons]; rcases c.both a b with h | h <;> omega

theorem Common.le_second (c : Common q) {as bs : List α} {n : Int} (h : Al q as bs n) : -n ≤ bs.length :=
  c.le_first (h.swap (by rw [c.ins, c.om]) c.comm)

theorem Common.nonpos (c : Common q) {as bs : List α} {n : Int} (h : Al q as bs n) : n ≤ 0 := by
  induction h with
  | nil => exact Int.le_refl _
  | ins b _ ih => have := c.ins; omega
  | om a _ ih => have := c.om; omega
  | both a b _ ih => rcases c.both a b with h | h <;> omega

theorem Common.self (c : Common q) (as : List α) : -least q as as = as.length := by
  have h1 := c.le_first (Al.least q as as)
  have h2 : Al q as as (-(as.length : Int)) := by
    clear h1
    induction as with
    | nil => exact .nil
    | cons a as ih => exact (Al.both a a ih).eq (by rw [c.same, List.length_cons]; omega)
  have := h2.le
  omega

theorem Common.cost {p : Pr α} (c : Common q) (k : Cost p) {as bs : List α} {n : Int} (h : Al q as bs n) : ∃ m, Al p as bs m ∧ m ≤ 2 * ((as.length : Int) + n) + 2 * ((bs.length : Int) + n) := by
  induction h with
  | nil => exact ⟨0, .nil, by simp⟩
  | ins b _ ih => obtain ⟨m, hm, hl⟩ := ih; exact ⟨_, .ins b hm, by have := c.ins; have := k.ins; rw [List.length_cons]; omega⟩
  | om a _ ih => obtain ⟨m, hm, hl⟩ := ih; exact ⟨_, .om a hm, by have := c.om; have := k.om; rw [List.length_cons]; omega⟩
  | both a b _ ih =>
    obtain ⟨m, hm, hl⟩ := ih
    refine ⟨_, .both a b hm, ?_⟩
    rw [List.length_cons, List.length_cons]
    rcases c.both a b with h | ⟨h, rfl⟩
    · have := k.le a b; omega
    · have := k.same a; omega

theorem Common.cost_le {p : Pr α} (c : Common q) (k : Cost p) (as bs : List α) : least p as bs ≤ 2 * ((as.length : Int) - -least q as bs) + 2 * ((bs.length : Int) - -least q as bs) := by
  obtain ⟨m, hm, hl⟩ := c.cost k (Al.least q as bs)
  have := hm.le
  omega
end

end Go.Proofs.Ythpeiboobnnfgaa.Ed
