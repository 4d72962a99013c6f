/- Proved: for all arguments the given program's laws.FnExactBooksCommon returns true, and its arguments read afterwards as they read before (the given constant Rows.FnExactBooksCommonCardSaid).
Conditions: none ahead of the given statement; the statement itself begins in a world whose listed package-level variables hold what the program's text lays there, and its card ties them to that text. -/
import Derived.Test.YtejoneninbdjbaaDoorRowFnExactBooksCommonK0
section
namespace Go.Proofs.YtejoneninbdjbaaDoor.Pur
open Go.RowKit Go.Proofs.YtejoneninbdjbaaDoorW.PrintWords Go.Proofs.YtejoneninbdjbaaDoorW.PrintMore Go.Proofs.YtejoneninbdjbaaDoor.E
def cnt (l : List ByteArray) (p c : Int) : Int := ((l.countP (fun t => decide (bt t p = 97 + c)) : Nat) : Int)
theorem cnt_nn (l : List ByteArray) (p c : Int) : 0 ≤ cnt l p c := Int.natCast_nonneg _
theorem cnt_le (l : List ByteArray) (p c : Int) : cnt l p c ≤ l.length := by
  have : l.countP (fun t => decide (bt t p = 97 + c)) ≤ l.length := List.countP_le_length
  unfold cnt; omega
theorem cnt_cons (t : ByteArray) (l : List ByteArray) (p c : Int) : cnt (t :: l) p c = cnt l p c + (if bt t p = 97 + c then 1 else 0) := by
  unfold cnt
  rw [List.countP_cons]
  by_cases h : bt t p = 97 + c
  · rw [if_pos h, decide_eq_true h]; rfl
  · rw [if_neg h, decide_eq_false h]; rfl
def pick (f : Int → Int) (b j : Int) : Int := if f j > f b then j else b
def col (l : List ByteArray) (p : Int) : Int := pick (cnt l p) (pick (cnt l p) (pick (cnt l p) 0 1) 2) 3
theorem pick_or (f : Int → Int) (b j : Int) : pick f b j = j ∨ pick f b j = b := by unfold pick; split <;> simp
theorem pick_rng {f : Int → Int} {b j : Int} (hb : 0 ≤ b ∧ b < 4) (hj : 0 ≤ j ∧ j < 4) : 0 ≤ pick f b j ∧ pick f b j < 4 := by
  rcases pick_or f b j with h | h <;> rw [h] <;> assumption
theorem col_rng (l : List ByteArray) (p : Int) : 0 ≤ col l p ∧ col l p < 4 := by
  unfold col
  exact pick_rng (pick_rng (pick_rng (by decide) (by decide)) (by decide)) (by decide)
def comL (l : List ByteArray) : Nat → Nat → List Int
  | 0, _ => []
  | d + 1, i => (97 + col l (i : Int)) :: comL l d (i + 1)
theorem ext_letter (b : Int) (hb : 0 ≤ b ∧ b < 4) : (⟨#[97, 98, 99, 100]⟩ : ByteArray).extract b.toNat (b + 1).toNat = strOfNums [97 + b] := by
  obtain rfl | rfl | rfl | rfl : b = 0 ∨ b = 1 ∨ b = 2 ∨ b = 3 := by omega
  all_goals rfl
theorem strOfNums_app (x y : List Int) : strOfNums x ++ strOfNums y = strOfNums (x ++ y) := by
  apply ByteArray.ext
  rw [ByteArray.data_append]
  unfold strOfNums
  simp
def Rds (l : List ByteArray) (n : Nat) : Prop := 1 ≤ l.length ∧ l.length ≤ 6 ∧ 1 ≤ n ∧ n ≤ 8 ∧ ∀ t ∈ l, t.size = n ∧ ∀ p : Nat, p < n → 97 ≤ bt t (p : Int) ∧ bt t (p : Int) ≤ 100
theorem goB_none (n : Nat) : ∀ (l : List ByteArray) (c : Int), (goB n l c).2 = true → c ≤ (goB n l c).1 ∧ ((goB n l c).1 = c → ∀ t ∈ l, readB t = true)
  | [], c, _ => ⟨Int.le_refl _, fun _ _ h => by cases h⟩
  | t :: ts, c, h => by
    rw [goB] at h ⊢
    by_cases g : t.size = n ∧ (readB t = true ∨ lostB t = true)
    · rw [if_pos g] at h ⊢
      by_cases e : lostB t = true
      · rw [if_pos e] at h ⊢
        have := goB_none n ts (c + 1) h
        exact ⟨by omega, fun h' => by omega⟩
      · rw [if_neg e] at h ⊢
        have := goB_none n ts c h
        refine ⟨this.1, fun h' x hx => ?_⟩
        rcases List.mem_cons.mp hx with rfl | hx
        · exact g.2.resolve_right e
        · exact this.2 h' x hx
    · rw [if_neg g] at h
      exact absurd h (by decide)
theorem okBooks_rds {l : List ByteArray} (h : okBooks l = true) : Rds l (rdOf ByteArray.empty l 0).size := by
  unfold okBooks at h
  rw [Bool.and_eq_true] at h
  obtain ⟨h1, h2⟩ := h
  have h2 : (booksOf l).1 = 0 := by simpa using h2
  unfold booksOf at h1 h2
  by_cases g : 1 ≤ l.length ∧ l.length ≤ 6 ∧ 1 ≤ (l.getD 0 ByteArray.empty).size ∧ (l.getD 0 ByteArray.empty).size ≤ 8
  · rw [if_pos g] at h1 h2
    rw [rd0]
    refine ⟨g.1, g.2.1, g.2.2.1, g.2.2.2, fun t ht => ⟨(goB_ok _ l 0 h1 t ht).1, fun p hp => ?_⟩⟩
    have hs := (goB_ok _ l 0 h1 t ht).1
    have hr := (goB_none _ l 0 h1).2 h2 t ht
    have hlt : p < t.size := by omega
    rw [bt_at t p hlt]
    unfold readB at hr
    have := List.all_eq_true.mp hr _ (List.getElem_mem (h := by rw [Array.length_toList]; exact hlt))
    rw [Bool.and_eq_true] at this
    have a := of_decide_eq_true this.1
    have b := of_decide_eq_true this.2
    omega
  · rw [if_neg g] at h1
    exact absurd h1 (by decide)
theorem drop_cons (l : List ByteArray) (i : Nat) (hi : i < l.length) : l.drop i = rdOf ByteArray.empty l (i : Int) :: l.drop (i + 1) := by
  rw [rd_at hi]
  exact List.drop_eq_getElem_cons hi
section
variable (l : List ByteArray) (n : Nat) (R : Rds l n)
include R
theorem rds_at (i : Nat) (hi : i < l.length) (p : Nat) (hp : p < n) : (rdOf ByteArray.empty l (i : Int)).size = n ∧ 97 ≤ bt (rdOf ByteArray.empty l (i : Int)) (p : Int) ∧ bt (rdOf ByteArray.empty l (i : Int)) (p : Int) ≤ 100 := by
  have := R.2.2.2.2 _ (rd_mem (l := l) (i := (i : Int)) (by omega) (by omega))
  exact ⟨this.1, this.2 p hp⟩
theorem spec_count (s : ByteArray) (p : Nat) (hp : p < n) (b m c : Int) (hc : 0 ≤ c ∧ c < 4) (Q : ByteArray × Bool → Prop) : ∀ (d i : Nat) (x : Int), i + d = l.length → 0 ≤ x → x ≤ i →
    (EvP (fun k => if x + cnt (l.drop i) p c > m then spec_BooksCommon.l1 k l s p c (x + cnt (l.drop i) p c) (wrap64 (c + 1)) else spec_BooksCommon.l1 k l s p b m (wrap64 (c + 1))) Q) → EvP (fun k => spec_BooksCommon.l2 k l s p b m c x (i : Int)) Q := by
  have l1 := R.1
  have l6 := R.2.1
  have n8 := R.2.2.2.1
  intro d
  induction d with
  | zero =>
    intro i x hi h0 h1 K
    refine EvP.succ ?_
    simp only [spec_BooksCommon.l2]
    have e0 : cnt (l.drop i) p c = 0 := by rw [List.drop_eq_nil_of_le (by omega)]; rfl
    rw [e0, Int.add_zero] at K
    exact EvP.no (by omega) K
  | succ d ih =>
    intro i x hi h0 h1 K
    have h := rds_at l n R i (by omega) p hp
    rw [drop_cons l i (by omega), cnt_cons] at K
    have e1 : Hd (wrap64 (x + 1) = x + 1) := ⟨w64 (by omega) (by omega)⟩
    have e2 : Hd (wrap64 ((i : Int) + 1) = ((i + 1 : Nat) : Int)) := ⟨w64 (by omega) (by omega)⟩
    have e3 : Hd (wrap64 (97 + c) = 97 + c) := ⟨w64 (by omega) (by omega)⟩
    have e4 : Hd (wrap64 (bt (rdOf ByteArray.empty l (i : Int)) (p : Int)) = bt (rdOf ByteArray.empty l (i : Int)) (p : Int)) := ⟨w64 (by omega) (by omega)⟩
    refine EvP.succ ?_
    simp only [spec_BooksCommon.l2]
    refine EvP.yes (by omega) (EvP.yes (by omega) (EvP.yes (by omega) (EvP.yes (by omega) ?_)))
    rw [e1.out, e2.out, e3.out, e4.out]
    refine EvP.ite (fun g => ?_) (fun g => ?_)
    · rw [if_pos g] at K
      refine ih (i + 1) (x + 1) (by omega) (by omega) (by omega) ?_
      rw [show x + 1 + cnt (l.drop (i + 1)) p c = x + (cnt (l.drop (i + 1)) p c + 1) by omega]
      exact K
    · rw [if_neg g, Int.add_zero] at K
      exact ih (i + 1) x (by omega) h0 (by omega) K
theorem spec_step (s : ByteArray) (p : Nat) (hp : p < n) (b m c c' : Int) (hc : 0 ≤ c ∧ c < 4) (hc' : c' = c + 1) (Q : ByteArray × Bool → Prop) (K : EvP (fun k => spec_BooksCommon.l1 k l s p (if cnt l p c > m then c else b) (if cnt l p c > m then cnt l p c else m) c') Q) :
    EvP (fun k => spec_BooksCommon.l1 k l s p b m c) Q := by
  subst hc'
  refine EvP.succ ?_
  simp only [spec_BooksCommon.l1]
  refine EvP.yes (by omega) ?_
  refine spec_count l n R s p hp b m c hc Q l.length 0 0 (by omega) (by omega) (by omega) ?_
  rw [List.drop_zero, Int.zero_add, w64 (by omega) (by omega)]
  by_cases g : cnt l p c > m
  · rw [if_pos g, if_pos g] at K; exact EvP.yes g K
  · rw [if_neg g, if_neg g] at K; exact EvP.no g K
theorem spec_col (xs : List Int) (p : Nat) (hp : p < n) (hx : xs.length ≤ 100) (Q : ByteArray × Bool → Prop) (K : EvP (fun k => spec_BooksCommon.l0 k l (strOfNums (xs ++ [97 + col l p])) ((p + 1 : Nat) : Int)) Q) : EvP (fun k => spec_BooksCommon.l1 k l (strOfNums xs) p 0 0 0) Q := by
  have n8 := R.2.2.2.1
  have stp : ∀ (b c c' : Int), 0 ≤ c ∧ c < 4 → c' = c + 1 → EvP (fun k => spec_BooksCommon.l1 k l (strOfNums xs) p (pick (cnt l p) b c) (cnt l p (pick (cnt l p) b c)) c') Q → EvP (fun k => spec_BooksCommon.l1 k l (strOfNums xs) p b (cnt l p b) c) Q := by
    intro b c c' hc hc' K
    refine spec_step l n R _ p hp b _ c c' hc hc' Q ?_
    unfold pick at K
    by_cases g : cnt l p c > cnt l p b
    · rw [if_pos g] at K; rw [if_pos g, if_pos g]; exact K
    · rw [if_neg g] at K; rw [if_neg g, if_neg g]; exact K
  refine spec_step l n R _ p hp 0 0 0 1 (by decide) rfl Q ?_
  have e0 : (if cnt l p 0 > 0 then (0 : Int) else 0) = 0 := by split <;> rfl
  have e1 : (if cnt l p 0 > 0 then cnt l p 0 else 0) = cnt l p 0 := by
    have := cnt_nn l p 0
    split <;> omega
  rw [e0, e1]
  refine stp 0 1 2 (by decide) rfl (stp _ 2 3 (by decide) rfl (stp _ 3 4 (by decide) rfl ?_))
  have hr := col_rng l p
  rw [show pick (cnt l p) (pick (cnt l p) (pick (cnt l p) 0 1) 2) 3 = col l p from rfl]
  refine EvP.succ ?_
  simp only [spec_BooksCommon.l1]
  rw [w64 (i := col l p + 1) (by omega) (by omega), ext_letter _ hr, strOfNums_app, w64 (i := (p : Int) + 1) (by omega) (by omega)]
  refine EvP.no (by decide) (EvP.yes hr.1 (EvP.yes (by omega) (EvP.yes (by omega) (EvP.yes ?_ K))))
  rw [strOfNums_size, strOfNums_size]
  simp only [List.length_cons, List.length_nil]
  omega
theorem spec_com : ∀ (d p : Nat) (xs : List Int), p + d = n → xs.length = p → EvP (fun k => spec_BooksCommon.l0 k l (strOfNums xs) (p : Int)) (· = (strOfNums (xs ++ comL l d p), true)) := by
  have h0 := fun hp => rds_at l n R 0 (by have := R.1; omega) 0 hp
  have n1 := R.2.2.1
  have n8 := R.2.2.2.1
  have l1 := R.1
  have hs : (rdOf ByteArray.empty l 0).size = n := (h0 (by omega)).1
  intro d
  induction d with
  | zero =>
    intro p xs hp hx
    refine EvP.succ ?_
    simp only [spec_BooksCommon.l0]
    exact EvP.yes (by omega) (EvP.no (by omega) (EvP.ret (by rw [comL, List.append_nil])))
  | succ d ih =>
    intro p xs hp hx
    refine EvP.succ ?_
    simp only [spec_BooksCommon.l0]
    refine EvP.yes (by omega) (EvP.yes (by omega) ?_)
    refine spec_col l n R xs p (by omega) (by omega) _ ?_
    refine (ih (p + 1) (xs ++ [97 + col l p]) (by omega) (by simp; omega)).mono (fun r e => ?_)
    rw [e, comL, List.append_assoc]
    rfl
theorem impl_count (x4 : List Int) (p : Nat) (hp : p < n) (Q : ByteArray × Bool → Prop) (K : EvP (fun k => impl_BooksCommon.l2 k l n x4 p [cnt l p 0, cnt l p 1, cnt l p 2, cnt l p 3] 0 0) Q) :
    ∀ (d i : Nat) (a0 a1 a2 a3 : Int), i + d = l.length → a0 + cnt (l.drop i) p 0 = cnt l p 0 → a1 + cnt (l.drop i) p 1 = cnt l p 1 → a2 + cnt (l.drop i) p 2 = cnt l p 2 → a3 + cnt (l.drop i) p 3 = cnt l p 3 → 0 ≤ a0 → 0 ≤ a1 → 0 ≤ a2 → 0 ≤ a3 →
      EvP (fun k => impl_BooksCommon.l1 k l n x4 p [a0, a1, a2, a3] (i : Int)) Q := by
  have l6 := R.2.1
  intro d
  induction d with
  | zero =>
    intro i a0 a1 a2 a3 hi h0 h1 h2 h3 _ _ _ _
    have e : l.drop i = [] := List.drop_eq_nil_of_le (by omega)
    rw [e] at h0 h1 h2 h3
    have z : ∀ c, cnt [] p c = 0 := fun c => rfl
    rw [z, Int.add_zero] at h0 h1 h2 h3
    subst h0 h1 h2 h3
    refine EvP.succ ?_
    simp only [impl_BooksCommon.l1]
    exact EvP.no (by omega) K
  | succ d ih =>
    intro i a0 a1 a2 a3 hi h0 h1 h2 h3 g0 g1 g2 g3
    have h := rds_at l n R i (by omega) p hp
    have b0 := cnt_le l p 0
    have b1 := cnt_le l p 1
    have b2 := cnt_le l p 2
    have b3 := cnt_le l p 3
    rw [drop_cons l i (by omega), cnt_cons] at h0 h1 h2 h3
    have m0 := cnt_nn (l.drop (i + 1)) p 0
    have m1 := cnt_nn (l.drop (i + 1)) p 1
    have m2 := cnt_nn (l.drop (i + 1)) p 2
    have m3 := cnt_nn (l.drop (i + 1)) p 3
    refine EvP.succ ?_
    simp only [impl_BooksCommon.l1]
    obtain ⟨x, hx⟩ : ∃ x, x = bt (rdOf ByteArray.empty l (i : Int)) (p : Int) := ⟨_, rfl⟩
    rw [← hx] at h h0 h1 h2 h3 ⊢
    refine EvP.yes (by omega) (EvP.yes (by omega) (EvP.yes (by omega) (EvP.yes (by omega) (EvP.yes (by omega) ?_))))
    rw [w64 (i := (i : Int) + 1) (by omega) (by omega)]
    obtain rfl | rfl | rfl | rfl : x = 97 ∨ x = 98 ∨ x = 99 ∨ x = 100 := by omega
    · rw [if_pos (by decide)] at h0
      rw [if_neg (by decide)] at h1 h2 h3
      have e1 : wrap64 (rd [a0, a1, a2, a3] 0 + 1) = a0 + 1 := w64 (by show _ ≤ a0 + 1; omega) (by show a0 + 1 ≤ _; omega)
      refine EvP.mono (P := Q) ?_ (fun _ h => h)
      show EvP (fun k => impl_BooksCommon.l1 k l n x4 p ([a0, a1, a2, a3].set 0 (wrap64 (rd [a0, a1, a2, a3] 0 + 1))) ((i + 1 : Nat) : Int)) Q
      rw [e1]
      exact ih (i + 1) (a0 + 1) a1 a2 a3 (by omega) (by omega) (by omega) (by omega) (by omega) (by omega) g1 g2 g3
    · rw [if_pos (by decide)] at h1
      rw [if_neg (by decide)] at h0 h2 h3
      have e1 : wrap64 (rd [a0, a1, a2, a3] 1 + 1) = a1 + 1 := w64 (by show _ ≤ a1 + 1; omega) (by show a1 + 1 ≤ _; omega)
      show EvP (fun k => impl_BooksCommon.l1 k l n x4 p ([a0, a1, a2, a3].set 1 (wrap64 (rd [a0, a1, a2, a3] 1 + 1))) ((i + 1 : Nat) : Int)) Q
      rw [e1]
      exact ih (i + 1) a0 (a1 + 1) a2 a3 (by omega) (by omega) (by omega) (by omega) (by omega) g0 (by omega) g2 g3
    · rw [if_pos (by decide)] at h2
      rw [if_neg (by decide)] at h0 h1 h3
      have e1 : wrap64 (rd [a0, a1, a2, a3] 2 + 1) = a2 + 1 := w64 (by show _ ≤ a2 + 1; omega) (by show a2 + 1 ≤ _; omega)
      show EvP (fun k => impl_BooksCommon.l1 k l n x4 p ([a0, a1, a2, a3].set 2 (wrap64 (rd [a0, a1, a2, a3] 2 + 1))) ((i + 1 : Nat) : Int)) Q
      rw [e1]
      exact ih (i + 1) a0 a1 (a2 + 1) a3 (by omega) (by omega) (by omega) (by omega) (by omega) g0 g1 (by omega) g3
    · rw [if_pos (by decide)] at h3
      rw [if_neg (by decide)] at h0 h1 h2
      have e1 : wrap64 (rd [a0, a1, a2, a3] 3 + 1) = a3 + 1 := w64 (by show _ ≤ a3 + 1; omega) (by show a3 + 1 ≤ _; omega)
      show EvP (fun k => impl_BooksCommon.l1 k l n x4 p ([a0, a1, a2, a3].set 3 (wrap64 (rd [a0, a1, a2, a3] 3 + 1))) ((i + 1 : Nat) : Int)) Q
      rw [e1]
      exact ih (i + 1) a0 a1 a2 (a3 + 1) (by omega) (by omega) (by omega) (by omega) (by omega) g0 g1 g2 (by omega)
theorem impl_col (x4 : List Int) (p : Nat) (hp : p < n) (hx : x4.length ≤ 100) (Q : ByteArray × Bool → Prop) (K : EvP (fun k => impl_BooksCommon.l0 k l n (x4 ++ [97 + col l p]) ((p + 1 : Nat) : Int)) Q) :
    EvP (fun k => impl_BooksCommon.l2 k l n x4 p [cnt l p 0, cnt l p 1, cnt l p 2, cnt l p 3] 0 0) Q := by
  have n8 := R.2.2.2.1
  have ef : ∀ c : Int, 0 ≤ c ∧ c < 4 → rd [cnt l p 0, cnt l p 1, cnt l p 2, cnt l p 3] c = cnt l p c := by
    intro c hc
    obtain rfl | rfl | rfl | rfl : c = 0 ∨ c = 1 ∨ c = 2 ∨ c = 3 := by omega
    all_goals rfl
  have stp : ∀ (b j j' : Int), 0 ≤ b ∧ b < 4 → 0 ≤ j ∧ j < 4 → j' = j + 1 → EvP (fun k => impl_BooksCommon.l2 k l n x4 p [cnt l p 0, cnt l p 1, cnt l p 2, cnt l p 3] (pick (cnt l p) b j) j') Q → EvP (fun k => impl_BooksCommon.l2 k l n x4 p [cnt l p 0, cnt l p 1, cnt l p 2, cnt l p 3] b j) Q := by
    intro b j j' hb hj hj' K
    subst hj'
    refine EvP.succ ?_
    simp only [impl_BooksCommon.l2]
    rw [ef b hb, ef j hj]
    refine EvP.yes hj.2 (EvP.yes hj.1 (EvP.yes hb.1 (EvP.yes hb.2 ?_)))
    unfold pick at K
    by_cases g : cnt l p j > cnt l p b
    · rw [if_pos g] at K; exact EvP.yes g K
    · rw [if_neg g] at K; exact EvP.no g K
  have r0 : (0 : Int) ≤ 0 ∧ (0 : Int) < 4 := by decide
  have e00 : pick (cnt l p) 0 0 = 0 := by unfold pick; split <;> rfl
  have r1 := pick_rng (f := cnt l p) r0 (j := 1) (by decide)
  have r2 := pick_rng (f := cnt l p) r1 (j := 2) (by decide)
  refine stp 0 0 1 r0 r0 rfl ?_
  rw [e00]
  refine stp 0 1 2 r0 (by decide) rfl (stp _ 2 3 r1 (by decide) rfl (stp _ 3 4 r2 (by decide) rfl ?_))
  have hr := col_rng l p
  rw [show pick (cnt l p) (pick (cnt l p) (pick (cnt l p) 0 1) 2) 3 = col l p from rfl]
  refine EvP.succ ?_
  simp only [impl_BooksCommon.l2]
  rw [show (97 + col l p) % 256 = 97 + col l p by omega, w64 (i := (p : Int) + 1) (by omega) (by omega)]
  exact EvP.no (by decide) (EvP.yes (by omega) K)
theorem impl_com : ∀ (d p : Nat) (xs : List Int), p + d = n → xs.length = p → EvP (fun k => impl_BooksCommon.l0 k l n xs (p : Int)) (· = (strOfNums (xs ++ comL l d p), true)) := by
  have n8 := R.2.2.2.1
  intro d
  induction d with
  | zero =>
    intro p xs hp hx
    refine EvP.succ ?_
    simp only [impl_BooksCommon.l0]
    exact EvP.no (by omega) (EvP.ret (by rw [comL, List.append_nil]))
  | succ d ih =>
    intro p xs hp hx
    refine EvP.succ ?_
    simp only [impl_BooksCommon.l0]
    refine EvP.yes (by omega) ?_
    refine impl_count l n R xs p (by omega) _ ?_ l.length 0 0 0 0 0 (by omega) (by rw [List.drop_zero, Int.zero_add]) (by rw [List.drop_zero, Int.zero_add]) (by rw [List.drop_zero, Int.zero_add]) (by rw [List.drop_zero, Int.zero_add]) (by omega) (by omega) (by omega) (by omega)
    refine impl_col l n R xs p (by omega) (by omega) _ ?_
    refine (ih (p + 1) (xs ++ [97 + col l p]) (by omega) (by simp; omega)).mono (fun r e => ?_)
    rw [e, comL, List.append_assoc]
    rfl
end
def common (l : List ByteArray) : ByteArray × Bool := if okBooks l = true then (strOfNums (comL l (rdOf ByteArray.empty l 0).size 0), true) else (⟨#[]⟩, false)
theorem spec_common (l : List ByteArray) (hs : ∀ t ∈ l, t.size ≤ 9223372036854775806) : EvP (fun k => spec_BooksCommon.f k l) (· = common l) := by
  unfold spec_BooksCommon.f common
  refine EvP.bind (spec_okBooks l hs) (fun _ e => ?_)
  subst e
  refine EvP.ite (fun h => ?_) (fun h => EvP.ret (by rw [if_neg h]))
  rw [if_pos h]
  exact spec_com l _ (okBooks_rds h) (rdOf ByteArray.empty l 0).size 0 [] (by omega) rfl
theorem impl_common (l : List ByteArray) (hs : ∀ t ∈ l, t.size ≤ 9223372036854775806) : EvP (fun k => impl_BooksCommon.f k l) (· = common l) := by
  unfold impl_BooksCommon.f common
  refine EvP.bind (impl_okBooks l hs) (fun _ e => ?_)
  subst e
  refine EvP.ite (fun h => ?_) (fun h => EvP.ret (by rw [if_neg h]))
  rw [if_pos h]
  have R := okBooks_rds h
  exact EvP.yes (by have := R.1; omega) (impl_com l _ R (rdOf ByteArray.empty l 0).size 0 [] (by omega) rfl)
end Go.Proofs.YtejoneninbdjbaaDoor.Pur
end
section
namespace Go.Proofs.YtejoneninbdjbaaDoor.Pur
open Go.RowKit Go.Proofs.YtejoneninbdjbaaDoorW.PrintWords Go.Proofs.YtejoneninbdjbaaDoorW.PrintMore Go.Proofs.YtejoneninbdjbaaDoor.E
theorem exact_common (l : List ByteArray) (hm : (l.length : Int) ≤ 9223372036854775807) (hx : ∀ t ∈ l, t.size ≤ 9223372036854775807) : ∃ k, laws_FnExactBooksCommon.f k l = some true := by
  refine EvP.rounds (?_ : EvP (fun k => laws_FnExactBooksCommon.f k l) (· = true))
  unfold laws_FnExactBooksCommon.f
  refine EvP.bind (sz_strs l hm hx 1048576 (by omega) (by omega)) (fun r hr => ?_)
  refine EvP.ite (fun _ => EvP.ret rfl) (fun hn => ?_)
  obtain ⟨_, _, hl, hs⟩ := hr.resolve_left hn
  have hs' : ∀ t ∈ l, t.size ≤ 9223372036854775806 := fun t ht => Nat.le_trans (hs t ht) (by omega)
  refine EvP.bind (to_strs l hl) (fun _ e => ?_)
  subst e
  refine EvP.bind (spec_common _ hs') (fun _ e => ?_)
  subst e
  refine EvP.bind (to_strs _ hl) (fun _ e => ?_)
  subst e
  refine EvP.bind (impl_common _ hs') (fun _ e => ?_)
  subst e
  refine EvP.yes rfl ?_
  rw [bne_self_eq_false]
  refine EvP.succ ?_
  simp only [laws_FnExactBooksCommon.j0]
  refine EvP.no (by decide) ?_
  refine EvP.bind (to_strs _ hl) (fun _ e => ?_)
  subst e
  refine EvP.bind (eq_strs _ hl) (fun _ e => ?_)
  subst e
  exact EvP.yes rfl (EvP.ret rfl)
end Go.Proofs.YtejoneninbdjbaaDoor.Pur
end
section
namespace Go.Proofs.YtejoneninbdjbaaDoor.Head
set_option maxRecDepth 100000
theorem and_t {a b : Bool} (h : a = true) (k : b = true) : (a && b) = true := by rw [h, k]; rfl
theorem mayEnter_of {P : Program} {l : List String} {W rest : List (List Char)} (h : behindMainWord (wordsSigns P.initOrder.toList) = W) (hc : ∃ c r, W = c :: r ∧ (c == "gc".toList || c == "spec".toList) = false ∧ (c == "carried".toList) = false) (hs : stripLifts liftWords W = (l, "cut".toList :: rest))
    (hl : (l.contains "finals" || !P.laysLater) = true) (hb : (l.contains "reflectrows" || !P.bearsReflect) = true) (hr : (l.contains "reflectrows" || !l.contains "leanrows") = true) (hd : P.doorFits l = true) : P.mayEnter = true := by
  obtain ⟨c, r, rfl, h1, h2⟩ := hc
  unfold Program.mayEnter
  rw [h]
  dsimp only
  rw [hs, hl, hb, hr, hd, h1, h2]
  simp
theorem headLifts_of {P : Program} {l : List String} {W rest : List (List Char)} (h : behindMainWord (wordsSigns P.initOrder.toList) = W) (hs : stripLifts liftWords W = (l, "cut".toList :: rest)) : P.headLifts = l := by
  unfold Program.headLifts
  rw [h]
  dsimp only
  rw [hs]
  simp
theorem liftsFinal_of {P : Program} {l : List String} {W rest : List (List Char)} (h : behindMainWord (wordsSigns P.initOrder.toList) = W) (hc : ∃ c r, W = c :: r ∧ (c == "gc".toList || c == "spec".toList) = false ∧ (c == "carried".toList) = false) (hs : stripLifts liftWords W = (l, "cut".toList :: rest)) : P.liftsFinal = l.contains "finals" := by
  unfold Program.liftsFinal
  rw [headLifts_of h hs, h]
  obtain ⟨c, r, rfl, h1, h2⟩ := hc
  have h3 : ((c :: r).head? == some "carried".toList) = false := by
    rw [beq_eq_false_iff_ne] at h2 ⊢
    exact fun e => h2 (Option.some.inj e)
  dsimp only
  rw [h3, Bool.false_and, Bool.false_or]
theorem make_of {P : Program} {rest : List (List Char)} (h : behindMainWord (wordsSigns P.initOrder.toList) = "cut".toList :: rest) : P.make = some .cut := by
  unfold Program.make
  rw [h]
  dsimp only
  rw [if_neg (by decide), if_pos (by simp)]
theorem mainIs_of {P : Program} {s : List Char} {rest : List (List Char)} (h : wordsSigns P.initOrder.toList = "harness".toList :: s :: rest) (hs : isSumSigns s = true) : P.mainIs = some (true, s) := by
  unfold Program.mainIs
  rw [h]
  dsimp only
  rw [hs]
  simp
def io : List Nat := [104, 97, 114, 110, 101, 115, 115, 32, 97, 49, 55, 53, 100, 55, 49, 55, 50, 99, 49, 55, 51, 50, 52, 49, 97, 52, 51, 56, 99, 53, 50, 99, 97, 100, 56, 102, 50, 99, 98, 98, 56, 52, 101, 54, 98, 50, 52, 101, 51, 97, 99, 54, 56, 49, 102, 49, 99, 55, 51, 51, 99, 98, 98, 57, 52, 51, 98, 49, 102, 48, 55, 99, 32, 99, 117, 116, 32, 97, 116, 32, 108, 111, 111, 112, 46, 101, 120, 97, 109, 112, 108, 101, 47, 110, 101, 117, 109, 101, 115, 47, 108, 97, 119, 115, 46, 70, 110, 69, 120, 97, 99, 116, 66, 111, 111, 107, 115, 86, 97, 108, 105, 100, 32, 108, 111, 111, 112, 46, 101, 120, 97, 109, 112, 108, 101, 47, 110, 101, 117, 109, 101, 115, 47, 108, 97, 119, 115, 46, 70, 110, 69, 120, 97, 99, 116, 66, 111, 111, 107, 115, 70, 97, 114, 32, 108, 111, 111, 112, 46, 101, 120, 97, 109, 112, 108, 101, 47, 110, 101, 117, 109, 101, 115, 47, 108, 97, 119, 115, 46, 70, 110, 69, 120, 97, 99, 116, 83, 116, 101, 109, 86, 97, 108, 105, 100, 32, 108, 111, 111, 112, 46, 101, 120, 97, 109, 112, 108, 101, 47, 110, 101, 117, 109, 101, 115, 47, 108, 97, 119, 115, 46, 70, 110, 69, 120, 97, 99, 116, 66, 111, 111, 107, 115, 67, 111, 109, 109, 111, 110, 32, 108, 111, 111, 112, 46, 101, 120, 97, 109, 112, 108, 101, 47, 110, 101, 117, 109, 101, 115, 47, 108, 97, 119, 115, 46, 70, 110, 66, 111, 111, 107, 115, 70, 97, 114, 32, 108, 111, 111, 112, 46, 101, 120, 97, 109, 112, 108, 101, 47, 110, 101, 117, 109, 101, 115, 47, 108, 97, 119, 115, 46, 70, 110, 69, 120, 97, 99, 116, 83, 116, 101, 109, 68, 101, 112, 116, 104, 32, 108, 111, 111, 112, 46, 101, 120, 97, 109, 112, 108, 101, 47, 110, 101, 117, 109, 101, 115, 47, 108, 97, 119, 115, 46, 70, 110, 66, 111, 111, 107, 115, 67, 111, 109, 109, 111, 110, 32, 108, 111, 111, 112, 46, 101, 120, 97, 109, 112, 108, 101, 47, 110, 101, 117, 109, 101, 115, 47, 108, 97, 119, 115, 46, 70, 110, 69, 120, 97, 99, 116, 83, 116, 101, 109, 67, 104, 97, 110, 103, 101, 115, 32, 108, 111, 111, 112, 46, 101, 120, 97, 109, 112, 108, 101, 47, 110, 101, 117, 109, 101, 115, 47, 108, 97, 119, 115, 46, 70, 110, 69, 120, 97, 99, 116, 83, 116, 101, 109, 77, 111, 118, 101, 32, 108, 111, 111, 112, 46, 101, 120, 97, 109, 112, 108, 101, 47, 110, 101, 117, 109, 101, 115, 47, 108, 97, 119, 115, 46, 70, 110, 69, 120, 97, 99, 116, 83, 116, 101, 109, 66, 101, 115, 116, 32, 108, 111, 111, 112, 46, 101, 120, 97, 109, 112, 108, 101, 47, 110, 101, 117, 109, 101, 115, 47, 108, 97, 119, 115, 46, 70, 110, 83, 116, 101, 109, 68, 101, 112, 116, 104, 32, 108, 111, 111, 112, 46, 101, 120, 97, 109, 112, 108, 101, 47, 110, 101, 117, 109, 101, 115, 47, 108, 97, 119, 115, 46, 70, 110, 83, 116, 101, 109, 66, 101, 115, 116, 32, 108, 111, 111, 112, 46, 101, 120, 97, 109, 112, 108, 101, 47, 110, 101, 117, 109, 101, 115, 47, 108, 97, 119, 115, 46, 70, 110, 69, 120, 97, 99, 116, 83, 116, 101, 109, 70, 101, 119, 101, 115, 116, 32, 108, 111, 111, 112, 46, 101, 120, 97, 109, 112, 108, 101, 47, 110, 101, 117, 109, 101, 115, 47, 108, 97, 119, 115, 46, 70, 110, 83, 116, 101, 109, 70, 101, 119, 101, 115, 116, 32, 108, 111, 111, 112, 46, 101, 120, 97, 109, 112, 108, 101, 47, 110, 101, 117, 109, 101, 115, 47, 108, 97, 119, 115, 46, 70, 110, 69, 120, 97, 99, 116, 83, 116, 101, 109, 70, 105, 108, 108, 32, 108, 111, 111, 112, 46, 101, 120, 97, 109, 112, 108, 101, 47, 110, 101, 117, 109, 101, 115, 47, 108, 97, 119, 115, 46, 70, 110, 83, 116, 101, 109, 77, 111, 118, 101, 32, 108, 111, 111, 112, 46, 101, 120, 97, 109, 112, 108, 101, 47, 110, 101, 117, 109, 101, 115, 47, 108, 97, 119, 115, 46, 70, 110, 83, 116, 101, 109, 76, 111, 115, 116, 32, 108, 111, 111, 112, 46, 101, 120, 97, 109, 112, 108, 101, 47, 110, 101, 117, 109, 101, 115, 47, 108, 97, 119, 115, 46, 70, 110, 83, 116, 101, 109, 67, 104, 97, 110, 103, 101, 115]
def ws : List (List Nat) := [[104, 97, 114, 110, 101, 115, 115], [97, 49, 55, 53, 100, 55, 49, 55, 50, 99, 49, 55, 51, 50, 52, 49, 97, 52, 51, 56, 99, 53, 50, 99, 97, 100, 56, 102, 50, 99, 98, 98, 56, 52, 101, 54, 98, 50, 52, 101, 51, 97, 99, 54, 56, 49, 102, 49, 99, 55, 51, 51, 99, 98, 98, 57, 52, 51, 98, 49, 102, 48, 55, 99], [99, 117, 116], [97, 116], [108, 111, 111, 112, 46, 101, 120, 97, 109, 112, 108, 101, 47, 110, 101, 117, 109, 101, 115, 47, 108, 97, 119, 115, 46, 70, 110, 69, 120, 97, 99, 116, 66, 111, 111, 107, 115, 86, 97, 108, 105, 100], [108, 111, 111, 112, 46, 101, 120, 97, 109, 112, 108, 101, 47, 110, 101, 117, 109, 101, 115, 47, 108, 97, 119, 115, 46, 70, 110, 69, 120, 97, 99, 116, 66, 111, 111, 107, 115, 70, 97, 114], [108, 111, 111, 112, 46, 101, 120, 97, 109, 112, 108, 101, 47, 110, 101, 117, 109, 101, 115, 47, 108, 97, 119, 115, 46, 70, 110, 69, 120, 97, 99, 116, 83, 116, 101, 109, 86, 97, 108, 105, 100], [108, 111, 111, 112, 46, 101, 120, 97, 109, 112, 108, 101, 47, 110, 101, 117, 109, 101, 115, 47, 108, 97, 119, 115, 46, 70, 110, 69, 120, 97, 99, 116, 66, 111, 111, 107, 115, 67, 111, 109, 109, 111, 110], [108, 111, 111, 112, 46, 101, 120, 97, 109, 112, 108, 101, 47, 110, 101, 117, 109, 101, 115, 47, 108, 97, 119, 115, 46, 70, 110, 66, 111, 111, 107, 115, 70, 97, 114], [108, 111, 111, 112, 46, 101, 120, 97, 109, 112, 108, 101, 47, 110, 101, 117, 109, 101, 115, 47, 108, 97, 119, 115, 46, 70, 110, 69, 120, 97, 99, 116, 83, 116, 101, 109, 68, 101, 112, 116, 104], [108, 111, 111, 112, 46, 101, 120, 97, 109, 112, 108, 101, 47, 110, 101, 117, 109, 101, 115, 47, 108, 97, 119, 115, 46, 70, 110, 66, 111, 111, 107, 115, 67, 111, 109, 109, 111, 110], [108, 111, 111, 112, 46, 101, 120, 97, 109, 112, 108, 101, 47, 110, 101, 117, 109, 101, 115, 47, 108, 97, 119, 115, 46, 70, 110, 69, 120, 97, 99, 116, 83, 116, 101, 109, 67, 104, 97, 110, 103, 101, 115], [108, 111, 111, 112, 46, 101, 120, 97, 109, 112, 108, 101, 47, 110, 101, 117, 109, 101, 115, 47, 108, 97, 119, 115, 46, 70, 110, 69, 120, 97, 99, 116, 83, 116, 101, 109, 77, 111, 118, 101], [108, 111, 111, 112, 46, 101, 120, 97, 109, 112, 108, 101, 47, 110, 101, 117, 109, 101, 115, 47, 108, 97, 119, 115, 46, 70, 110, 69, 120, 97, 99, 116, 83, 116, 101, 109, 66, 101, 115, 116], [108, 111, 111, 112, 46, 101, 120, 97, 109, 112, 108, 101, 47, 110, 101, 117, 109, 101, 115, 47, 108, 97, 119, 115, 46, 70, 110, 83, 116, 101, 109, 68, 101, 112, 116, 104], [108, 111, 111, 112, 46, 101, 120, 97, 109, 112, 108, 101, 47, 110, 101, 117, 109, 101, 115, 47, 108, 97, 119, 115, 46, 70, 110, 83, 116, 101, 109, 66, 101, 115, 116], [108, 111, 111, 112, 46, 101, 120, 97, 109, 112, 108, 101, 47, 110, 101, 117, 109, 101, 115, 47, 108, 97, 119, 115, 46, 70, 110, 69, 120, 97, 99, 116, 83, 116, 101, 109, 70, 101, 119, 101, 115, 116], [108, 111, 111, 112, 46, 101, 120, 97, 109, 112, 108, 101, 47, 110, 101, 117, 109, 101, 115, 47, 108, 97, 119, 115, 46, 70, 110, 83, 116, 101, 109, 70, 101, 119, 101, 115, 116], [108, 111, 111, 112, 46, 101, 120, 97, 109, 112, 108, 101, 47, 110, 101, 117, 109, 101, 115, 47, 108, 97, 119, 115, 46, 70, 110, 69, 120, 97, 99, 116, 83, 116, 101, 109, 70, 105, 108, 108], [108, 111, 111, 112, 46, 101, 120, 97, 109, 112, 108, 101, 47, 110, 101, 117, 109, 101, 115, 47, 108, 97, 119, 115, 46, 70, 110, 83, 116, 101, 109, 77, 111, 118, 101], [108, 111, 111, 112, 46, 101, 120, 97, 109, 112, 108, 101, 47, 110, 101, 117, 109, 101, 115, 47, 108, 97, 119, 115, 46, 70, 110, 83, 116, 101, 109, 76, 111, 115, 116], [108, 111, 111, 112, 46, 101, 120, 97, 109, 112, 108, 101, 47, 110, 101, 117, 109, 101, 115, 47, 108, 97, 119, 115, 46, 70, 110, 83, 116, 101, 109, 67, 104, 97, 110, 103, 101, 115]]
def ch (w : List Nat) : List Char := w.map Char.ofNat
theorem io_is : Tryd.prog.initOrder = String.ofList (ch io) := by kernel_rfl
theorem io_ws : wordsSigns (ch io) = ws.map ch := by kernel_rfl
theorem io_all : wordsSigns Tryd.prog.initOrder.toList = ws.map ch := by rw [io_is, String.toList_ofList, io_ws]
theorem be : behindMainWord (ws.map ch) = (ws.drop 2).map ch := by kernel_rfl
theorem io_be : behindMainWord (wordsSigns Tryd.prog.initOrder.toList) = (ws.drop 2).map ch := by rw [io_all, be]
theorem first : ∃ c r, (ws.drop 2).map ch = c :: r ∧ (c == "gc".toList || c == "spec".toList) = false ∧ (c == "carried".toList) = false := ⟨ch (ws.getD 2 []), (ws.drop 3).map ch, by kernel_rfl, by kernel_rfl, by kernel_rfl⟩
theorem st : stripLifts liftWords ((ws.drop 2).map ch) = ([], "cut".toList :: ((ws.drop 3).map ch)) := by kernel_rfl
theorem ll : ([].contains "finals" || !Tryd.prog.laysLater) = true := by kernel_rfl
theorem br : ([].contains "reflectrows" || !Tryd.prog.bearsReflect) = true := by kernel_rfl
theorem rr : ([].contains "reflectrows" || ![].contains "leanrows") = true := by kernel_rfl
theorem df : Tryd.prog.doorFits [] = true := by kernel_rfl
theorem mayE : Tryd.prog.mayEnter = true := mayEnter_of io_be first st ll br rr df
theorem finE : Tryd.prog.liftsFinal = [].contains "finals" := liftsFinal_of io_be first st
theorem mainE : Tryd.prog.mainIs = some (true, ch [97, 49, 55, 53, 100, 55, 49, 55, 50, 99, 49, 55, 51, 50, 52, 49, 97, 52, 51, 56, 99, 53, 50, 99, 97, 100, 56, 102, 50, 99, 98, 98, 56, 52, 101, 54, 98, 50, 52, 101, 51, 97, 99, 54, 56, 49, 102, 49, 99, 55, 51, 51, 99, 98, 98, 57, 52, 51, 98, 49, 102, 48, 55, 99]) := mainIs_of (rest := (ws.drop 2).map ch) (io_all.trans (by kernel_rfl)) (by kernel_rfl)
theorem makeE : Tryd.prog.make = some .cut := make_of (io_be.trans (by kernel_rfl : (ws.drop 2).map ch = "cut".toList :: ((ws.drop 3).map ch)))
end Go.Proofs.YtejoneninbdjbaaDoor.Head
end
section
namespace Go.Proofs.YtejoneninbdjbaaDoor.Pur
open Go.RowKit Go.ChangeShapes Go.Deep Go.Proofs.YtejoneninbdjbaaDoorW.PrintWords Go.Proofs.YtejoneninbdjbaaDoor.E
theorem open_rowP {P : Program} {H : Type} {enc : TypeId × Value → H} {W : World} {α : Type} [Inhabited α] {d : Kd α} {p : α → Prop} {t e : TypeId} {fuel : Nat} {cs : List Value} {x : DataW H × List MemPlace} (ht : P.underlying t = some (.slice e)) (hc : P.cellsOf e = d.sz)
    (o : ∀ (fuel : Nat) (cs : List Value) (x : DataW H × List MemPlace), DataW.trod enc P W 0 (fun _ => true) true fuel e cs = some x → ∃ y, d.K W y cs ∧ p y)
    (h : DataW.trod enc P W 0 (fun _ => true) true fuel t cs = some x) : ∃ (A : Option Addr) (c : Nat) (l : List α), cs = [.slice A l.length c] ∧ l.length ≤ c ∧ (l.length : Int) ≤ 9223372036854775807 ∧ d.C W A l.length l ∧ ∀ y ∈ l, p y := by
  rcases open_slice ht h with ⟨rfl, _⟩ | ⟨a, len, cap, m, n, D, Pl, rfl, _, hl, hm, hmm, _, hx⟩
  · exact ⟨none, 0, [], rfl, Nat.le_refl _, by simp, ⟨rfl, by simp, fun h => absurd h (by simp)⟩, fun y hy => by cases hy⟩
  · have hlm : len ≤ m := by rw [hmm]; simp; omega
    unfold maxLen at hm
    obtain ⟨Y, hY⟩ := choose_lt (α := α) (n := len) (p := fun i y => ∃ cs', W.cells? 0 (a.add (i * P.cellsOf e)) (P.cellsOf e) = some cs' ∧ d.K W y cs' ∧ p y) (fun i hi => by
      obtain ⟨cs', h1, h2⟩ := hx i (by omega)
      obtain ⟨y, hy, hp⟩ := o _ _ _ h2
      exact ⟨y, cs', h1, hy, hp⟩)
    have hlen : ((List.range len).map Y).length = len := by simp
    refine ⟨some a, cap, (List.range len).map Y, by rw [hlen], by rw [hlen]; exact hl, by rw [hlen]; omega, ⟨rfl, by rw [hlen]; omega, fun _ => ⟨a, rfl, fun j q hj => ?_⟩⟩, fun y hy => ?_⟩
    · obtain ⟨hj1, hj2⟩ := List.getElem?_eq_some_iff.1 hj
      rw [hlen] at hj1
      simp only [List.getElem_map, List.getElem_range] at hj2
      subst hj2
      obtain ⟨cs', h1, h2, _⟩ := hY j hj1
      obtain ⟨_, g1, g2⟩ := World.cells?_some h1
      refine ⟨cs', by rw [g1, hc], h2, fun i u hu => ?_⟩
      have := g2 i (by rw [← g1]; exact (List.getElem?_eq_some_iff.1 hu).1)
      rw [Go.Deep.add_add, hc, hu] at this
      exact this
    · obtain ⟨j, hj, rfl⟩ := List.mem_map.mp hy
      obtain ⟨_, _, _, hp⟩ := hY j (List.mem_range.mp hj)
      exact hp
theorem open_strsR {P : Program} {H : Type} {enc : TypeId × Value → H} {W : World} {t e : TypeId} {fuel : Nat} {cs : List Value} {x : DataW H × List MemPlace} (ht : P.underlying t = some (.slice e)) (he : P.underlying e = some .string) (hc : P.cellsOf e = 1) (h : DataW.trod enc P W 0 (fun _ => true) true fuel t cs = some x) :
    ∃ (A : Option Addr) (c : Nat) (l : List ByteArray), cs = [.slice A l.length c] ∧ l.length ≤ c ∧ (l.length : Int) ≤ 9223372036854775807 ∧ Kd.string.C W A l.length l ∧ ∀ y ∈ l, y.size ≤ 9223372036854775807 :=
  haveI : Inhabited ByteArray := ⟨ByteArray.empty⟩
  open_rowP ht hc (fun fuel cs x h => by
    obtain ⟨s, rfl, _, hs⟩ := DataW.trod_string he h
    exact ⟨s, rfl, by unfold maxLen at hs; omega⟩) h
end Go.Proofs.YtejoneninbdjbaaDoor.Pur
end
section
namespace Go.Proofs.YtejoneninbdjbaaDoor.fnExactBooksCommon
open Go.ChangeShapes Go.WideShapes Go.ChangeAt Go.RowKit
open Go.ChangeMaps (open_string shut_string)
set_option linter.unusedVariables false
theorem own : ownKnob Tryd.prog.godebug = none := by kernel_rfl
theorem laidOut : laidOutB Tryd.prog = true := by kernel_rfl
set_option maxRecDepth 100000 in
theorem lifted (os : Os) (started : os.Started) (H : Type) (enc : TypeId × Value → H) :
    ReturnsInHanded {} Tryd.checked os 6 .any (fun w args => (Rows.fnExactBooksCommonSpec.pre enc Tryd.prog Tryd.f6 Rows.fnExactBooksCommonRow.domain false w args ∧ laidMetH Tryd.prog Rows.fnExactBooksCommonRow.laid w) ∧ sizedMet enc Tryd.prog Tryd.f6 (OpenSpec.ofChange Rows.fnExactBooksCommonSpec) false w args) (Rows.fnExactBooksCommonSpec.post enc Tryd.prog Tryd.f6 false true false false) := by
  refine returnsInHanded_of_change_and (C := Tryd.checked) (X := fun w _ => laidMetH Tryd.prog Rows.fnExactBooksCommonRow.laid w) (fun _ _ _ hh h => h.of_heap hh) own started (by kernel_rfl) Tryd.func6
    (ChangeSpec.witness_shaped (enc := enc) (C := Tryd.checked) (os := os) (X := fun w _ => laidMetH Tryd.prog Rows.fnExactBooksCommonRow.laid w) false (World.laidAll Tryd.prog os Rows.fnExactBooksCommonRow.laid) #[.slice none 0 0] 8 (World.laidAll_os _ _ _) (World.shaped_of_ZipB (by kernel_rfl) (by kernel_rfl)) (by kernel_rfl) (by kernel_rfl) (by kernel_rfl) (by rw [MakeChecks.laidMetH_plain _ _ _ (by kernel_rfl)]; exact laidMet_laidAll _ (by kernel_rfl) (by kernel_rfl))) ?_
  intro W base args ds gs before hval0 hW hcnd hsz0 hL _
  have hsz : (DataW.weightsEach Tryd.prog (Tryd.f6.params.toList ++ Rows.fnExactBooksCommonSpec.plain.varTypes Tryd.prog) (ds ++ gs)).all (· ≤ reachBytes) = true := hsz0
  have hval : ∀ (j : Nat) t v, Tryd.f6.params[j]? = some t → args[j]? = some v → Value.okWide Tryd.prog W .any base t v := hval0
  have hW' := hW
  obtain ⟨p, q, hA0, hV, rfl, hfz, hnd⟩ := hW
  have hA : DataW.TrodAll enc Tryd.prog W 0 (fun _ => true) true Tryd.f6.params.toList args.toList ds p := hA0
  rw [Tryd.params6] at hA hval hsz
  obtain ⟨v0, vs0, d0, ds0, p0, q0, hargs, rfl, rfl, h0, r0⟩ := trodAll_cons hA
  obtain ⟨rfl, rfl, rfl⟩ := trodAll_nil r0
  obtain rfl : args = #[v0] := by cases args; simp_all
  obtain ⟨rfl, rfl⟩ := trodVars_none hV
  have k0 := h0
  have lt0 : ∀ x ∈ p0, x.block < W.heap.size := by obtain ⟨m, hm⟩ := k0; exact DataW.trod_lt m _ _ _ hm
  obtain ⟨a0, len0, cap0, rfl⟩ := okWide_slice Tryd.underlying22 (hval 0 22 v0 rfl rfl)
  obtain ⟨fuel0, hf0⟩ := h0
  obtain ⟨A0, c0, l0, hcs0, hle0, hm0, hC0, hx0⟩ := Pur.open_strsR Tryd.underlying22 Tryd.underlying9 (by kernel_rfl) hf0
  simp [Value.cells] at hcs0
  obtain ⟨rfl, rfl, rfl⟩ := hcs0
  clear hA0 hval0 hsz0 hsz
  obtain ⟨k, hk⟩ := Pur.exact_common l0 hm0 hx0
  refine (E.laws_FnExactBooksCommon.calls k _ _ l0 true W hC0 hle0 hk).mono fun e W' ⟨he, bel⟩ => ?_
  subst he
  exact ⟨_, rfl, _, _, _, [], _, [], hW', trodAll_mk1 (shut_bool Tryd.underlying4 _), (trodAll_cons_mk (Below.trod laidOut (by kernel_rfl) (of_decide_eq_true (by kernel_rfl)) k0 bel lt0) trodAll_mk0), rfl, bel.frame _, fun h => by cases h⟩
set_option maxRecDepth 100000 in
theorem closed : joinedFacts Tryd.prog 6 Tryd.f6 Rows.fnExactBooksCommonSpec Rows.fnExactBooksCommonRow = true := by
  have hf : (Rows.fnExactBooksCommonRow.lifted == Tryd.prog.liftsFinal) = true := by rw [Head.finE]; kernel_rfl
  have hm : (Tryd.prog.make == some Rows.fnExactBooksCommonRow.make) = true := by rw [Head.makeE]; kernel_rfl
  unfold joinedFacts
  repeat' (with_reducible refine Head.and_t ?_ ?_)
  all_goals first | with_reducible exact Head.mayE | with_reducible exact hf | with_reducible exact hm | (as_aux_lemma => kernel_rfl)
theorem over : Rows.fnExactBooksCommonRow.holds Tryd.pinned (OpenSpec.ofChange Rows.fnExactBooksCommonSpec) :=
  OpenClaim.holds_of_wide 6 Tryd.f6 rfl rfl rfl rfl rfl rfl rfl ⟨rfl, rfl, rfl, rfl, rfl⟩ rfl rfl rfl rfl rfl (by kernel_rfl) Tryd.func6 closed
    (of_decide_eq_true (by kernel_rfl)) (by unfold Func.isWrapper; first | (rw [if_pos (by decide +kernel)]; kernel_rfl) | (rw [if_neg (by decide +kernel)]; exact ⟨rfl, rfl⟩))
    (fun os started H enc _ => lifted os started H enc)
theorem card_ : Rows.FnExactBooksCommonCardSaid :=
  Claim7.holds_tied_plain_at .later [] [.data, .pinned] true (true, "a175d7172c173241a438c52cad8f2cbb84e6b24e3ac681f1c733cbb943b1f07c") false
    over (fun _ h => by cases h) (by as_aux_lemma => kernel_rfl) (fun _ h => by cases h) fnExactBooksCommon_row_tie rfl ⟨rfl, rfl⟩ (Head.mainE.trans (by as_aux_lemma => kernel_rfl)) rfl
    (fun f fn hf hfn => by
      obtain rfl : f = 6 := Option.some.inj ((show Tryd.prog.funcNamed "loop.example/neumes/laws.FnExactBooksCommon" = some 6 by kernel_rfl).symm.trans hf) |>.symm
      obtain rfl : fn = Tryd.f6 := (Option.some.inj (Tryd.func6.symm.trans hfn)).symm
      exact ⟨by kernel_rfl, fun j t ht => by
        rw [Tryd.params6] at ht
        have hm : t ∈ [22] := by simpa using Array.mem_of_getElem? ht
        have hall : ([22].all fun u => !Tryd.prog.wantsStandIn u) = true := by kernel_rfl
        exact (show Tryd.prog.wantsStandIn t = false by simpa using List.all_eq_true.1 hall t hm)⟩)
    (by kernel_rfl)
theorem proved : Rows.FnExactBooksCommonCardSaid := card_
#print axioms proved
end Go.Proofs.YtejoneninbdjbaaDoor.fnExactBooksCommon
namespace Go.Proofs.YtejoneninbdjbaaDoor
theorem fnExactBooksCommon_holds : Rows.FnExactBooksCommonCardSaid := fnExactBooksCommon.proved
end Go.Proofs.YtejoneninbdjbaaDoor
end
