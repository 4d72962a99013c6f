/- Proved: for all arguments the given program's laws.FnExactBooksFar returns true, and its arguments read afterwards as they read before (the given constant Rows.FnExactBooksFarCardSaid).
Conditions: none ahead of the given statement; the statement itself begins in a world whose listed package-level variables hold what the program's text lays there, and its card ties them to that text. -/
import Derived.Test.YtejoneninbdjbaaDoorRowFnExactBooksFarK0
section
namespace Go.Proofs.YtejoneninbdjbaaDoor.Pur
open Go.RowKit Go.Proofs.YtejoneninbdjbaaDoorW.PrintWords Go.Proofs.YtejoneninbdjbaaDoorW.PrintMore Go.Proofs.YtejoneninbdjbaaDoor.E
def diffs : List UInt8 → List UInt8 → Nat
  | a :: x, b :: y => (if a = b then 0 else 1) + diffs x y
  | _, _ => 0
def farT (s t : ByteArray) : Int := (diffs s.data.toList t.data.toList : Nat)
theorem spec_far_loop (s t : ByteArray) (hs : s.size ≤ 1048576) (ht : s.size ≤ t.size) : ∀ (d i : Nat) (n : Int), i + d = s.size → 0 ≤ n → n ≤ i → EvP (fun k => spec_l7Far.l0 k s t n (i : Int)) (· = n + (diffs (s.data.toList.drop i) (t.data.toList.drop i) : Nat)) := by
  intro d
  induction d with
  | zero =>
    intro i n hi h0 h1
    refine EvP.succ ?_
    simp only [spec_l7Far.l0]
    refine EvP.no (by omega) (EvP.ret ?_)
    rw [List.drop_of_length_le (show s.data.toList.length ≤ i by rw [list_len]; omega)]
    simp [diffs]
  | succ d ih =>
    intro i n hi h0 h1
    have hlt : i < s.size := by omega
    have hlt' : i < t.size := by omega
    have e1 : Hd (wrap64 (n + 1) = n + 1) := ⟨w64 (by omega) (by omega)⟩
    have e2 : Hd (wrap64 ((i : Int) + 1) = ((i + 1 : Nat) : Int)) := ⟨w64 (by omega) (by omega)⟩
    refine EvP.succ ?_
    simp only [spec_l7Far.l0]
    refine EvP.yes (by omega) (EvP.yes (by omega) (EvP.yes (by omega) ?_))
    rw [bt_at s i hlt, bt_at t i hlt', e1.out, e2.out, List.drop_eq_getElem_cons (show i < s.data.toList.length by rw [list_len]; exact hlt), List.drop_eq_getElem_cons (show i < t.data.toList.length by rw [list_len]; exact hlt'), diffs]
    refine EvP.ite (fun h => ?_) (fun h => ?_)
    · rw [if_pos (UInt8.toNat_inj.mp (by omega)), Nat.zero_add]
      exact ih (i + 1) n (by omega) h0 (by omega)
    · rw [if_neg (fun e => h (by rw [e]))]
      refine (ih (i + 1) (n + 1) (by omega) (by omega) (by omega)).mono (fun r e => by rw [e]; omega)
theorem spec_far (s t : ByteArray) (hs : s.size ≤ 1048576) (ht : s.size ≤ t.size) : EvP (fun k => spec_l7Far.f k s t) (· = farT s t) := by
  unfold spec_l7Far.f
  refine (spec_far_loop s t hs ht s.size 0 0 (by omega) (by omega) (by omega)).mono (fun r e => by rw [e]; unfold farT; simp)
theorem impl_far_loop (s t : ByteArray) (hs : s.size ≤ 1048576) (ht : s.size ≤ t.size) : ∀ (d i : Nat) (n : Int), i + d = s.size → 0 ≤ n → n ≤ i → EvP (fun k => impl_farBetween.l0 k s t n (s.size : Int) (i : Int)) (· = n + (diffs (s.data.toList.drop i) (t.data.toList.drop i) : Nat)) := by
  intro d
  induction d with
  | zero =>
    intro i n hi h0 h1
    refine EvP.succ ?_
    simp only [impl_farBetween.l0]
    refine EvP.no (by omega) (EvP.ret ?_)
    rw [List.drop_of_length_le (show s.data.toList.length ≤ i by rw [list_len]; omega)]
    simp [diffs]
  | succ d ih =>
    intro i n hi h0 h1
    have hlt : i < s.size := by omega
    have hlt' : i < t.size := by omega
    have e1 : Hd (wrap64 (n + 1) = n + 1) := ⟨w64 (by omega) (by omega)⟩
    have e2 : Hd (wrap64 ((i : Int) + 1) = ((i + 1 : Nat) : Int)) := ⟨w64 (by omega) (by omega)⟩
    refine EvP.succ ?_
    simp only [impl_farBetween.l0]
    refine EvP.yes (by omega) (EvP.yes (by omega) (EvP.yes (by omega) (EvP.yes (by omega) ?_)))
    rw [bt_at s i hlt, bt_at t i hlt', e1.out, e2.out, List.drop_eq_getElem_cons (show i < s.data.toList.length by rw [list_len]; exact hlt), List.drop_eq_getElem_cons (show i < t.data.toList.length by rw [list_len]; exact hlt'), diffs]
    refine EvP.ite (fun h => ?_) (fun h => ?_)
    · rw [if_pos (UInt8.toNat_inj.mp (by omega)), Nat.zero_add]
      exact ih (i + 1) n (by omega) h0 (by omega)
    · rw [if_neg (fun e => h (by rw [e]))]
      refine (ih (i + 1) (n + 1) (by omega) (by omega) (by omega)).mono (fun r e => by rw [e]; omega)
theorem impl_far (s t : ByteArray) (hs : s.size ≤ 1048576) (ht : s.size ≤ t.size) : EvP (fun k => impl_farBetween.f k s t) (· = farT s t) := by
  unfold impl_farBetween.f
  refine (impl_far_loop s t hs ht s.size 0 0 (by omega) (by omega) (by omega)).mono (fun r e => by rw [e]; unfold farT; simp)
theorem goB_ok (n : Nat) : ∀ (l : List ByteArray) (c : Int), (goB n l c).2 = true → ∀ t ∈ l, t.size = n ∧ (readB t = true ∨ lostB t = true)
  | [], _, _, _, h => by cases h
  | t :: ts, c, h, x, hx => by
    rw [goB] at h
    by_cases g : t.size = n ∧ (readB t = true ∨ lostB t = true)
    · rw [if_pos g] at h
      rcases List.mem_cons.mp hx with rfl | hx
      · exact g
      · exact goB_ok n ts _ h x hx
    · rw [if_neg g] at h
      exact absurd h (by decide)
theorem books_ok {l : List ByteArray} (h : (booksOf l).2 = true) : 1 ≤ l.length ∧ l.length ≤ 6 ∧ ∃ n : Nat, 1 ≤ n ∧ n ≤ 8 ∧ ∀ t ∈ l, t.size = n ∧ (readB t = true ∨ lostB t = true) := by
  unfold booksOf at h
  by_cases g : 1 ≤ l.length ∧ l.length ≤ 6 ∧ 1 ≤ (l.getD 0 ByteArray.empty).size ∧ (l.getD 0 ByteArray.empty).size ≤ 8
  · rw [if_pos g] at h
    exact ⟨g.1, g.2.1, _, g.2.2.1, g.2.2.2, goB_ok _ l 0 h⟩
  · rw [if_neg g] at h
    exact absurd h (by decide)
theorem okBooks_ok {l : List ByteArray} (h : okBooks l = true) : 1 ≤ l.length ∧ l.length ≤ 6 ∧ ∃ n : Nat, 1 ≤ n ∧ n ≤ 8 ∧ ∀ t ∈ l, t.size = n ∧ (readB t = true ∨ lostB t = true) := by
  unfold okBooks at h
  rw [Bool.and_eq_true] at h
  exact books_ok h.1
def farOf (l : List ByteArray) (i k : Int) : Int := if okBooks l = true ∧ 0 ≤ i ∧ i < l.length ∧ 0 ≤ k ∧ k < l.length then farT (rdOf ByteArray.empty l i) (rdOf ByteArray.empty l k) else -1
theorem rd_mem {l : List ByteArray} {i : Int} (h0 : 0 ≤ i) (h1 : i < l.length) : rdOf ByteArray.empty l i ∈ l := by
  obtain ⟨j, rfl⟩ := Int.eq_ofNat_of_zero_le h0
  rw [rd_at (by omega)]
  exact List.getElem_mem _
theorem spec_farOf (l : List ByteArray) (i k : Int) (hs : ∀ t ∈ l, t.size ≤ 9223372036854775806) (hl : l.length ≤ 1048576) : EvP (fun n => spec_BooksFar.f n l i k) (· = farOf l i k) := by
  unfold spec_BooksFar.f farOf
  refine EvP.bind (spec_okBooks l hs) (fun _ e => ?_)
  subst e
  refine EvP.ite (fun ho => ?_) (fun ho => EvP.ret (by rw [if_neg (fun h => ho h.1)]))
  obtain ⟨l1, l6, n, n1, n8, hn⟩ := okBooks_ok ho
  rw [w64 (by omega) (by omega)]
  have hin : ∀ z : Int, spec_l6In.f z 0 ((l.length : Int) - 1) = some (decide (0 ≤ z ∧ z < l.length)) := by
    intro z
    unfold spec_l6In.f
    by_cases h : z ≥ 0
    · rw [if_pos h]
      exact congrArg some (decide_eq_decide.mpr (by omega))
    · rw [if_neg h, decide_eq_false (by omega)]
  rw [hin i, hin k]
  refine EvP.bind (P := (· = decide (0 ≤ i ∧ i < l.length))) (EvP.ret rfl) (fun _ e => ?_)
  subst e
  refine EvP.ite (fun h1 => ?_) (fun h1 => EvP.ret (by rw [if_neg (fun h => h1 (decide_eq_true ⟨h.2.1, h.2.2.1⟩))]))
  have h1 := of_decide_eq_true h1
  refine EvP.bind (P := (· = decide (0 ≤ k ∧ k < l.length))) (EvP.ret rfl) (fun _ e => ?_)
  subst e
  refine EvP.ite (fun h2 => ?_) (fun h2 => EvP.ret (by rw [if_neg (fun h => h2 (decide_eq_true ⟨h.2.2.2.1, h.2.2.2.2⟩))]))
  have h2 := of_decide_eq_true h2
  have s1 := (hn _ (rd_mem h1.1 h1.2)).1
  have s2 := (hn _ (rd_mem h2.1 h2.2)).1
  refine EvP.yes h1.1 (EvP.yes h1.2 (EvP.yes h2.1 (EvP.yes h2.2 ?_)))
  rw [if_pos ⟨ho, h1.1, h1.2, h2.1, h2.2⟩]
  exact EvP.bind (spec_far _ _ (by omega) (by omega)) (fun _ e => EvP.ret e)
theorem impl_farOf (l : List ByteArray) (i k : Int) (hs : ∀ t ∈ l, t.size ≤ 9223372036854775806) : EvP (fun n => impl_BooksFar.f n l i k) (· = farOf l i k) := by
  unfold impl_BooksFar.f farOf
  refine EvP.bind (impl_okBooks l hs) (fun _ e => ?_)
  subst e
  refine EvP.ite (fun ho => ?_) (fun ho => EvP.ret (by rw [if_neg (fun h => ho h.1)]))
  obtain ⟨l1, l6, n, n1, n8, hn⟩ := okBooks_ok ho
  have m1 : ¬ mn i k < 0 ↔ 0 ≤ i ∧ 0 ≤ k := by unfold mn; omega
  have m2 : ¬ mx i k ≥ (l.length : Int) ↔ i < l.length ∧ k < l.length := by unfold mx; omega
  refine EvP.ite (fun h => EvP.ret (by rw [if_neg (fun hh => m1.mpr ⟨hh.2.1, hh.2.2.2.1⟩ h)])) (fun h1 => ?_)
  have h1 := m1.mp h1
  refine EvP.ite (fun h => EvP.ret (by rw [if_neg (fun hh => m2.mpr ⟨hh.2.2.1, hh.2.2.2.2⟩ h)])) (fun h2 => ?_)
  have h2 := m2.mp h2
  have s1 := (hn _ (rd_mem h1.1 h2.1)).1
  have s2 := (hn _ (rd_mem h1.2 h2.2)).1
  refine EvP.yes h1.1 (EvP.yes h2.1 (EvP.yes h1.2 (EvP.yes h2.2 ?_)))
  rw [if_pos ⟨ho, h1.1, h2.1, h1.2, h2.2⟩]
  exact EvP.bind (impl_far _ _ (by omega) (by omega)) (fun _ e => EvP.ret e)
theorem exact_far (l : List ByteArray) (i k : Int) (hm : (l.length : Int) ≤ 9223372036854775807) (hx : ∀ t ∈ l, t.size ≤ 9223372036854775807) (_ : (Lit.int .i64 i).wf = true) (_ : (Lit.int .i64 k).wf = true) : ∃ n, laws_FnExactBooksFar.f n l i k = some true := by
  refine EvP.rounds (?_ : EvP (fun n => laws_FnExactBooksFar.f n l i k) (· = true))
  unfold laws_FnExactBooksFar.f
  refine EvP.bind (sz_strs l hm hx 1048576 (by omega) (by omega)) (fun r hr => ?_)
  refine EvP.ite (fun _ => EvP.ret rfl) (fun hn => ?_)
  obtain ⟨_, _, hl, hs⟩ := hr.resolve_left hn
  refine EvP.bind (to_strs l hl) (fun _ e => ?_)
  subst e
  refine EvP.bind (spec_farOf _ i k (fun t ht => Nat.le_trans (hs t ht) (by omega)) hl) (fun _ e => ?_)
  subst e
  refine EvP.bind (to_strs _ hl) (fun _ e => ?_)
  subst e
  refine EvP.bind (impl_farOf _ i k (fun t ht => Nat.le_trans (hs t ht) (by omega))) (fun _ e => ?_)
  subst e
  refine EvP.yes rfl ?_
  refine EvP.bind (to_strs _ hl) (fun _ e => ?_)
  subst e
  refine EvP.bind (eq_strs _ hl) (fun _ e => ?_)
  subst e
  exact EvP.yes rfl (EvP.ret rfl)
end Go.Proofs.YtejoneninbdjbaaDoor.Pur
end
section
namespace Go.Proofs.YtejoneninbdjbaaDoor.Head
set_option maxRecDepth 100000
theorem and_t {a b : Bool} (h : a = true) (k : b = true) : (a && b) = true := by rw [h, k]; rfl
theorem mayEnter_of {P : Program} {l : List String} {W rest : List (List Char)} (h : behindMainWord (wordsSigns P.initOrder.toList) = W) (hc : ∃ c r, W = c :: r ∧ (c == "gc".toList || c == "spec".toList) = false ∧ (c == "carried".toList) = false) (hs : stripLifts liftWords W = (l, "cut".toList :: rest))
    (hl : (l.contains "finals" || !P.laysLater) = true) (hb : (l.contains "reflectrows" || !P.bearsReflect) = true) (hr : (l.contains "reflectrows" || !l.contains "leanrows") = true) (hd : P.doorFits l = true) : P.mayEnter = true := by
  obtain ⟨c, r, rfl, h1, h2⟩ := hc
  unfold Program.mayEnter
  rw [h]
  dsimp only
  rw [hs, hl, hb, hr, hd, h1, h2]
  simp
theorem headLifts_of {P : Program} {l : List String} {W rest : List (List Char)} (h : behindMainWord (wordsSigns P.initOrder.toList) = W) (hs : stripLifts liftWords W = (l, "cut".toList :: rest)) : P.headLifts = l := by
  unfold Program.headLifts
  rw [h]
  dsimp only
  rw [hs]
  simp
theorem liftsFinal_of {P : Program} {l : List String} {W rest : List (List Char)} (h : behindMainWord (wordsSigns P.initOrder.toList) = W) (hc : ∃ c r, W = c :: r ∧ (c == "gc".toList || c == "spec".toList) = false ∧ (c == "carried".toList) = false) (hs : stripLifts liftWords W = (l, "cut".toList :: rest)) : P.liftsFinal = l.contains "finals" := by
  unfold Program.liftsFinal
  rw [headLifts_of h hs, h]
  obtain ⟨c, r, rfl, h1, h2⟩ := hc
  have h3 : ((c :: r).head? == some "carried".toList) = false := by
    rw [beq_eq_false_iff_ne] at h2 ⊢
    exact fun e => h2 (Option.some.inj e)
  dsimp only
  rw [h3, Bool.false_and, Bool.false_or]
theorem make_of {P : Program} {rest : List (List Char)} (h : behindMainWord (wordsSigns P.initOrder.toList) = "cut".toList :: rest) : P.make = some .cut := by
  unfold Program.make
  rw [h]
  dsimp only
  rw [if_neg (by decide), if_pos (by simp)]
theorem mainIs_of {P : Program} {s : List Char} {rest : List (List Char)} (h : wordsSigns P.initOrder.toList = "harness".toList :: s :: rest) (hs : isSumSigns s = true) : P.mainIs = some (true, s) := by
  unfold Program.mainIs
  rw [h]
  dsimp only
  rw [hs]
  simp
def io : List Nat := [104, 97, 114, 110, 101, 115, 115, 32, 97, 49, 55, 53, 100, 55, 49, 55, 50, 99, 49, 55, 51, 50, 52, 49, 97, 52, 51, 56, 99, 53, 50, 99, 97, 100, 56, 102, 50, 99, 98, 98, 56, 52, 101, 54, 98, 50, 52, 101, 51, 97, 99, 54, 56, 49, 102, 49, 99, 55, 51, 51, 99, 98, 98, 57, 52, 51, 98, 49, 102, 48, 55, 99, 32, 99, 117, 116, 32, 97, 116, 32, 108, 111, 111, 112, 46, 101, 120, 97, 109, 112, 108, 101, 47, 110, 101, 117, 109, 101, 115, 47, 108, 97, 119, 115, 46, 70, 110, 69, 120, 97, 99, 116, 66, 111, 111, 107, 115, 86, 97, 108, 105, 100, 32, 108, 111, 111, 112, 46, 101, 120, 97, 109, 112, 108, 101, 47, 110, 101, 117, 109, 101, 115, 47, 108, 97, 119, 115, 46, 70, 110, 69, 120, 97, 99, 116, 66, 111, 111, 107, 115, 70, 97, 114, 32, 108, 111, 111, 112, 46, 101, 120, 97, 109, 112, 108, 101, 47, 110, 101, 117, 109, 101, 115, 47, 108, 97, 119, 115, 46, 70, 110, 69, 120, 97, 99, 116, 83, 116, 101, 109, 86, 97, 108, 105, 100, 32, 108, 111, 111, 112, 46, 101, 120, 97, 109, 112, 108, 101, 47, 110, 101, 117, 109, 101, 115, 47, 108, 97, 119, 115, 46, 70, 110, 69, 120, 97, 99, 116, 66, 111, 111, 107, 115, 67, 111, 109, 109, 111, 110, 32, 108, 111, 111, 112, 46, 101, 120, 97, 109, 112, 108, 101, 47, 110, 101, 117, 109, 101, 115, 47, 108, 97, 119, 115, 46, 70, 110, 66, 111, 111, 107, 115, 70, 97, 114, 32, 108, 111, 111, 112, 46, 101, 120, 97, 109, 112, 108, 101, 47, 110, 101, 117, 109, 101, 115, 47, 108, 97, 119, 115, 46, 70, 110, 69, 120, 97, 99, 116, 83, 116, 101, 109, 68, 101, 112, 116, 104, 32, 108, 111, 111, 112, 46, 101, 120, 97, 109, 112, 108, 101, 47, 110, 101, 117, 109, 101, 115, 47, 108, 97, 119, 115, 46, 70, 110, 66, 111, 111, 107, 115, 67, 111, 109, 109, 111, 110, 32, 108, 111, 111, 112, 46, 101, 120, 97, 109, 112, 108, 101, 47, 110, 101, 117, 109, 101, 115, 47, 108, 97, 119, 115, 46, 70, 110, 69, 120, 97, 99, 116, 83, 116, 101, 109, 67, 104, 97, 110, 103, 101, 115, 32, 108, 111, 111, 112, 46, 101, 120, 97, 109, 112, 108, 101, 47, 110, 101, 117, 109, 101, 115, 47, 108, 97, 119, 115, 46, 70, 110, 69, 120, 97, 99, 116, 83, 116, 101, 109, 77, 111, 118, 101, 32, 108, 111, 111, 112, 46, 101, 120, 97, 109, 112, 108, 101, 47, 110, 101, 117, 109, 101, 115, 47, 108, 97, 119, 115, 46, 70, 110, 69, 120, 97, 99, 116, 83, 116, 101, 109, 66, 101, 115, 116, 32, 108, 111, 111, 112, 46, 101, 120, 97, 109, 112, 108, 101, 47, 110, 101, 117, 109, 101, 115, 47, 108, 97, 119, 115, 46, 70, 110, 83, 116, 101, 109, 68, 101, 112, 116, 104, 32, 108, 111, 111, 112, 46, 101, 120, 97, 109, 112, 108, 101, 47, 110, 101, 117, 109, 101, 115, 47, 108, 97, 119, 115, 46, 70, 110, 83, 116, 101, 109, 66, 101, 115, 116, 32, 108, 111, 111, 112, 46, 101, 120, 97, 109, 112, 108, 101, 47, 110, 101, 117, 109, 101, 115, 47, 108, 97, 119, 115, 46, 70, 110, 69, 120, 97, 99, 116, 83, 116, 101, 109, 70, 101, 119, 101, 115, 116, 32, 108, 111, 111, 112, 46, 101, 120, 97, 109, 112, 108, 101, 47, 110, 101, 117, 109, 101, 115, 47, 108, 97, 119, 115, 46, 70, 110, 83, 116, 101, 109, 70, 101, 119, 101, 115, 116, 32, 108, 111, 111, 112, 46, 101, 120, 97, 109, 112, 108, 101, 47, 110, 101, 117, 109, 101, 115, 47, 108, 97, 119, 115, 46, 70, 110, 69, 120, 97, 99, 116, 83, 116, 101, 109, 70, 105, 108, 108, 32, 108, 111, 111, 112, 46, 101, 120, 97, 109, 112, 108, 101, 47, 110, 101, 117, 109, 101, 115, 47, 108, 97, 119, 115, 46, 70, 110, 83, 116, 101, 109, 77, 111, 118, 101, 32, 108, 111, 111, 112, 46, 101, 120, 97, 109, 112, 108, 101, 47, 110, 101, 117, 109, 101, 115, 47, 108, 97, 119, 115, 46, 70, 110, 83, 116, 101, 109, 76, 111, 115, 116, 32, 108, 111, 111, 112, 46, 101, 120, 97, 109, 112, 108, 101, 47, 110, 101, 117, 109, 101, 115, 47, 108, 97, 119, 115, 46, 70, 110, 83, 116, 101, 109, 67, 104, 97, 110, 103, 101, 115]
def ws : List (List Nat) := [[104, 97, 114, 110, 101, 115, 115], [97, 49, 55, 53, 100, 55, 49, 55, 50, 99, 49, 55, 51, 50, 52, 49, 97, 52, 51, 56, 99, 53, 50, 99, 97, 100, 56, 102, 50, 99, 98, 98, 56, 52, 101, 54, 98, 50, 52, 101, 51, 97, 99, 54, 56, 49, 102, 49, 99, 55, 51, 51, 99, 98, 98, 57, 52, 51, 98, 49, 102, 48, 55, 99], [99, 117, 116], [97, 116], [108, 111, 111, 112, 46, 101, 120, 97, 109, 112, 108, 101, 47, 110, 101, 117, 109, 101, 115, 47, 108, 97, 119, 115, 46, 70, 110, 69, 120, 97, 99, 116, 66, 111, 111, 107, 115, 86, 97, 108, 105, 100], [108, 111, 111, 112, 46, 101, 120, 97, 109, 112, 108, 101, 47, 110, 101, 117, 109, 101, 115, 47, 108, 97, 119, 115, 46, 70, 110, 69, 120, 97, 99, 116, 66, 111, 111, 107, 115, 70, 97, 114], [108, 111, 111, 112, 46, 101, 120, 97, 109, 112, 108, 101, 47, 110, 101, 117, 109, 101, 115, 47, 108, 97, 119, 115, 46, 70, 110, 69, 120, 97, 99, 116, 83, 116, 101, 109, 86, 97, 108, 105, 100], [108, 111, 111, 112, 46, 101, 120, 97, 109, 112, 108, 101, 47, 110, 101, 117, 109, 101, 115, 47, 108, 97, 119, 115, 46, 70, 110, 69, 120, 97, 99, 116, 66, 111, 111, 107, 115, 67, 111, 109, 109, 111, 110], [108, 111, 111, 112, 46, 101, 120, 97, 109, 112, 108, 101, 47, 110, 101, 117, 109, 101, 115, 47, 108, 97, 119, 115, 46, 70, 110, 66, 111, 111, 107, 115, 70, 97, 114], [108, 111, 111, 112, 46, 101, 120, 97, 109, 112, 108, 101, 47, 110, 101, 117, 109, 101, 115, 47, 108, 97, 119, 115, 46, 70, 110, 69, 120, 97, 99, 116, 83, 116, 101, 109, 68, 101, 112, 116, 104], [108, 111, 111, 112, 46, 101, 120, 97, 109, 112, 108, 101, 47, 110, 101, 117, 109, 101, 115, 47, 108, 97, 119, 115, 46, 70, 110, 66, 111, 111, 107, 115, 67, 111, 109, 109, 111, 110], [108, 111, 111, 112, 46, 101, 120, 97, 109, 112, 108, 101, 47, 110, 101, 117, 109, 101, 115, 47, 108, 97, 119, 115, 46, 70, 110, 69, 120, 97, 99, 116, 83, 116, 101, 109, 67, 104, 97, 110, 103, 101, 115], [108, 111, 111, 112, 46, 101, 120, 97, 109, 112, 108, 101, 47, 110, 101, 117, 109, 101, 115, 47, 108, 97, 119, 115, 46, 70, 110, 69, 120, 97, 99, 116, 83, 116, 101, 109, 77, 111, 118, 101], [108, 111, 111, 112, 46, 101, 120, 97, 109, 112, 108, 101, 47, 110, 101, 117, 109, 101, 115, 47, 108, 97, 119, 115, 46, 70, 110, 69, 120, 97, 99, 116, 83, 116, 101, 109, 66, 101, 115, 116], [108, 111, 111, 112, 46, 101, 120, 97, 109, 112, 108, 101, 47, 110, 101, 117, 109, 101, 115, 47, 108, 97, 119, 115, 46, 70, 110, 83, 116, 101, 109, 68, 101, 112, 116, 104], [108, 111, 111, 112, 46, 101, 120, 97, 109, 112, 108, 101, 47, 110, 101, 117, 109, 101, 115, 47, 108, 97, 119, 115, 46, 70, 110, 83, 116, 101, 109, 66, 101, 115, 116], [108, 111, 111, 112, 46, 101, 120, 97, 109, 112, 108, 101, 47, 110, 101, 117, 109, 101, 115, 47, 108, 97, 119, 115, 46, 70, 110, 69, 120, 97, 99, 116, 83, 116, 101, 109, 70, 101, 119, 101, 115, 116], [108, 111, 111, 112, 46, 101, 120, 97, 109, 112, 108, 101, 47, 110, 101, 117, 109, 101, 115, 47, 108, 97, 119, 115, 46, 70, 110, 83, 116, 101, 109, 70, 101, 119, 101, 115, 116], [108, 111, 111, 112, 46, 101, 120, 97, 109, 112, 108, 101, 47, 110, 101, 117, 109, 101, 115, 47, 108, 97, 119, 115, 46, 70, 110, 69, 120, 97, 99, 116, 83, 116, 101, 109, 70, 105, 108, 108], [108, 111, 111, 112, 46, 101, 120, 97, 109, 112, 108, 101, 47, 110, 101, 117, 109, 101, 115, 47, 108, 97, 119, 115, 46, 70, 110, 83, 116, 101, 109, 77, 111, 118, 101], [108, 111, 111, 112, 46, 101, 120, 97, 109, 112, 108, 101, 47, 110, 101, 117, 109, 101, 115, 47, 108, 97, 119, 115, 46, 70, 110, 83, 116, 101, 109, 76, 111, 115, 116], [108, 111, 111, 112, 46, 101, 120, 97, 109, 112, 108, 101, 47, 110, 101, 117, 109, 101, 115, 47, 108, 97, 119, 115, 46, 70, 110, 83, 116, 101, 109, 67, 104, 97, 110, 103, 101, 115]]
def ch (w : List Nat) : List Char := w.map Char.ofNat
theorem io_is : Tryd.prog.initOrder = String.ofList (ch io) := by kernel_rfl
theorem io_ws : wordsSigns (ch io) = ws.map ch := by kernel_rfl
theorem io_all : wordsSigns Tryd.prog.initOrder.toList = ws.map ch := by rw [io_is, String.toList_ofList, io_ws]
theorem be : behindMainWord (ws.map ch) = (ws.drop 2).map ch := by kernel_rfl
theorem io_be : behindMainWord (wordsSigns Tryd.prog.initOrder.toList) = (ws.drop 2).map ch := by rw [io_all, be]
theorem first : ∃ c r, (ws.drop 2).map ch = c :: r ∧ (c == "gc".toList || c == "spec".toList) = false ∧ (c == "carried".toList) = false := ⟨ch (ws.getD 2 []), (ws.drop 3).map ch, by kernel_rfl, by kernel_rfl, by kernel_rfl⟩
theorem st : stripLifts liftWords ((ws.drop 2).map ch) = ([], "cut".toList :: ((ws.drop 3).map ch)) := by kernel_rfl
theorem ll : ([].contains "finals" || !Tryd.prog.laysLater) = true := by kernel_rfl
theorem br : ([].contains "reflectrows" || !Tryd.prog.bearsReflect) = true := by kernel_rfl
theorem rr : ([].contains "reflectrows" || ![].contains "leanrows") = true := by kernel_rfl
theorem df : Tryd.prog.doorFits [] = true := by kernel_rfl
theorem mayE : Tryd.prog.mayEnter = true := mayEnter_of io_be first st ll br rr df
theorem finE : Tryd.prog.liftsFinal = [].contains "finals" := liftsFinal_of io_be first st
theorem mainE : Tryd.prog.mainIs = some (true, ch [97, 49, 55, 53, 100, 55, 49, 55, 50, 99, 49, 55, 51, 50, 52, 49, 97, 52, 51, 56, 99, 53, 50, 99, 97, 100, 56, 102, 50, 99, 98, 98, 56, 52, 101, 54, 98, 50, 52, 101, 51, 97, 99, 54, 56, 49, 102, 49, 99, 55, 51, 51, 99, 98, 98, 57, 52, 51, 98, 49, 102, 48, 55, 99]) := mainIs_of (rest := (ws.drop 2).map ch) (io_all.trans (by kernel_rfl)) (by kernel_rfl)
theorem makeE : Tryd.prog.make = some .cut := make_of (io_be.trans (by kernel_rfl : (ws.drop 2).map ch = "cut".toList :: ((ws.drop 3).map ch)))
end Go.Proofs.YtejoneninbdjbaaDoor.Head
end
section
namespace Go.Proofs.YtejoneninbdjbaaDoor.Pur
open Go.RowKit Go.ChangeShapes Go.Deep Go.Proofs.YtejoneninbdjbaaDoorW.PrintWords Go.Proofs.YtejoneninbdjbaaDoor.E
theorem open_rowP {P : Program} {H : Type} {enc : TypeId × Value → H} {W : World} {α : Type} [Inhabited α] {d : Kd α} {p : α → Prop} {t e : TypeId} {fuel : Nat} {cs : List Value} {x : DataW H × List MemPlace} (ht : P.underlying t = some (.slice e)) (hc : P.cellsOf e = d.sz)
    (o : ∀ (fuel : Nat) (cs : List Value) (x : DataW H × List MemPlace), DataW.trod enc P W 0 (fun _ => true) true fuel e cs = some x → ∃ y, d.K W y cs ∧ p y)
    (h : DataW.trod enc P W 0 (fun _ => true) true fuel t cs = some x) : ∃ (A : Option Addr) (c : Nat) (l : List α), cs = [.slice A l.length c] ∧ l.length ≤ c ∧ (l.length : Int) ≤ 9223372036854775807 ∧ d.C W A l.length l ∧ ∀ y ∈ l, p y := by
  rcases open_slice ht h with ⟨rfl, _⟩ | ⟨a, len, cap, m, n, D, Pl, rfl, _, hl, hm, hmm, _, hx⟩
  · exact ⟨none, 0, [], rfl, Nat.le_refl _, by simp, ⟨rfl, by simp, fun h => absurd h (by simp)⟩, fun y hy => by cases hy⟩
  · have hlm : len ≤ m := by rw [hmm]; simp; omega
    unfold maxLen at hm
    obtain ⟨Y, hY⟩ := choose_lt (α := α) (n := len) (p := fun i y => ∃ cs', W.cells? 0 (a.add (i * P.cellsOf e)) (P.cellsOf e) = some cs' ∧ d.K W y cs' ∧ p y) (fun i hi => by
      obtain ⟨cs', h1, h2⟩ := hx i (by omega)
      obtain ⟨y, hy, hp⟩ := o _ _ _ h2
      exact ⟨y, cs', h1, hy, hp⟩)
    have hlen : ((List.range len).map Y).length = len := by simp
    refine ⟨some a, cap, (List.range len).map Y, by rw [hlen], by rw [hlen]; exact hl, by rw [hlen]; omega, ⟨rfl, by rw [hlen]; omega, fun _ => ⟨a, rfl, fun j q hj => ?_⟩⟩, fun y hy => ?_⟩
    · obtain ⟨hj1, hj2⟩ := List.getElem?_eq_some_iff.1 hj
      rw [hlen] at hj1
      simp only [List.getElem_map, List.getElem_range] at hj2
      subst hj2
      obtain ⟨cs', h1, h2, _⟩ := hY j hj1
      obtain ⟨_, g1, g2⟩ := World.cells?_some h1
      refine ⟨cs', by rw [g1, hc], h2, fun i u hu => ?_⟩
      have := g2 i (by rw [← g1]; exact (List.getElem?_eq_some_iff.1 hu).1)
      rw [Go.Deep.add_add, hc, hu] at this
      exact this
    · obtain ⟨j, hj, rfl⟩ := List.mem_map.mp hy
      obtain ⟨_, _, _, hp⟩ := hY j (List.mem_range.mp hj)
      exact hp
theorem open_strsR {P : Program} {H : Type} {enc : TypeId × Value → H} {W : World} {t e : TypeId} {fuel : Nat} {cs : List Value} {x : DataW H × List MemPlace} (ht : P.underlying t = some (.slice e)) (he : P.underlying e = some .string) (hc : P.cellsOf e = 1) (h : DataW.trod enc P W 0 (fun _ => true) true fuel t cs = some x) :
    ∃ (A : Option Addr) (c : Nat) (l : List ByteArray), cs = [.slice A l.length c] ∧ l.length ≤ c ∧ (l.length : Int) ≤ 9223372036854775807 ∧ Kd.string.C W A l.length l ∧ ∀ y ∈ l, y.size ≤ 9223372036854775807 :=
  haveI : Inhabited ByteArray := ⟨ByteArray.empty⟩
  open_rowP ht hc (fun fuel cs x h => by
    obtain ⟨s, rfl, _, hs⟩ := DataW.trod_string he h
    exact ⟨s, rfl, by unfold maxLen at hs; omega⟩) h
end Go.Proofs.YtejoneninbdjbaaDoor.Pur
end
section
namespace Go.Proofs.YtejoneninbdjbaaDoor.fnExactBooksFar
open Go.ChangeShapes Go.WideShapes Go.ChangeAt Go.RowKit
open Go.ChangeMaps (open_string shut_string)
set_option linter.unusedVariables false
theorem own : ownKnob Tryd.prog.godebug = none := by kernel_rfl
theorem laidOut : laidOutB Tryd.prog = true := by kernel_rfl
set_option maxRecDepth 100000 in
theorem lifted (os : Os) (started : os.Started) (H : Type) (enc : TypeId × Value → H) :
    ReturnsInHanded {} Tryd.checked os 4 .any (fun w args => (Rows.fnExactBooksFarSpec.pre enc Tryd.prog Tryd.f4 Rows.fnExactBooksFarRow.domain false w args ∧ laidMetH Tryd.prog Rows.fnExactBooksFarRow.laid w) ∧ sizedMet enc Tryd.prog Tryd.f4 (OpenSpec.ofChange Rows.fnExactBooksFarSpec) false w args) (Rows.fnExactBooksFarSpec.post enc Tryd.prog Tryd.f4 false true false false) := by
  refine returnsInHanded_of_change_and (C := Tryd.checked) (X := fun w _ => laidMetH Tryd.prog Rows.fnExactBooksFarRow.laid w) (fun _ _ _ hh h => h.of_heap hh) own started (by kernel_rfl) Tryd.func4
    (ChangeSpec.witness_shaped (enc := enc) (C := Tryd.checked) (os := os) (X := fun w _ => laidMetH Tryd.prog Rows.fnExactBooksFarRow.laid w) false (World.laidAll Tryd.prog os Rows.fnExactBooksFarRow.laid) #[.slice none 0 0, .int .i64 0, .int .i64 0] 8 (World.laidAll_os _ _ _) (World.shaped_of_ZipB (by kernel_rfl) (by kernel_rfl)) (by kernel_rfl) (by kernel_rfl) (by kernel_rfl) (by rw [MakeChecks.laidMetH_plain _ _ _ (by kernel_rfl)]; exact laidMet_laidAll _ (by kernel_rfl) (by kernel_rfl))) ?_
  intro W base args ds gs before hval0 hW hcnd hsz0 hL _
  have hsz : (DataW.weightsEach Tryd.prog (Tryd.f4.params.toList ++ Rows.fnExactBooksFarSpec.plain.varTypes Tryd.prog) (ds ++ gs)).all (· ≤ reachBytes) = true := hsz0
  have hval : ∀ (j : Nat) t v, Tryd.f4.params[j]? = some t → args[j]? = some v → Value.okWide Tryd.prog W .any base t v := hval0
  have hW' := hW
  obtain ⟨p, q, hA0, hV, rfl, hfz, hnd⟩ := hW
  have hA : DataW.TrodAll enc Tryd.prog W 0 (fun _ => true) true Tryd.f4.params.toList args.toList ds p := hA0
  rw [Tryd.params4] at hA hval hsz
  obtain ⟨v0, vs0, d0, ds0, p0, q0, hargs, rfl, rfl, h0, r0⟩ := trodAll_cons hA
  obtain ⟨v1, vs1, d1, ds1, p1, q1, rfl, rfl, rfl, h1, r1⟩ := trodAll_cons r0
  obtain ⟨v2, vs2, d2, ds2, p2, q2, rfl, rfl, rfl, h2, r2⟩ := trodAll_cons r1
  obtain ⟨rfl, rfl, rfl⟩ := trodAll_nil r2
  obtain rfl : args = #[v0, v1, v2] := by cases args; simp_all
  obtain ⟨rfl, rfl⟩ := trodVars_none hV
  have k0 := h0
  have lt0 : ∀ x ∈ p0, x.block < W.heap.size := by obtain ⟨m, hm⟩ := k0; exact DataW.trod_lt m _ _ _ hm
  obtain ⟨a0, len0, cap0, rfl⟩ := okWide_slice Tryd.underlying22 (hval 0 22 v0 rfl rfl)
  obtain ⟨fuel0, hf0⟩ := h0
  obtain ⟨A0, c0, l0, hcs0, hle0, hm0, hC0, hx0⟩ := Pur.open_strsR Tryd.underlying22 Tryd.underlying9 (by kernel_rfl) hf0
  simp [Value.cells] at hcs0
  obtain ⟨rfl, rfl, rfl⟩ := hcs0
  have k1 := h1
  have lt1 : ∀ x ∈ p1, x.block < W.heap.size := by obtain ⟨m, hm⟩ := k1; exact DataW.trod_lt m _ _ _ hm
  obtain ⟨a1, rfl, rfl, rfl, w1⟩ := open_int Tryd.underlying3 (hval 1 3 v1 rfl rfl) h1
  have k2 := h2
  have lt2 : ∀ x ∈ p2, x.block < W.heap.size := by obtain ⟨m, hm⟩ := k2; exact DataW.trod_lt m _ _ _ hm
  obtain ⟨a2, rfl, rfl, rfl, w2⟩ := open_int Tryd.underlying3 (hval 2 3 v2 rfl rfl) h2
  clear hA0 hval0 hsz0 hsz
  obtain ⟨k, hk⟩ := Pur.exact_far l0 a1 a2 hm0 hx0 w1 w2
  refine (E.laws_FnExactBooksFar.calls k _ _ l0 a1 a2 true W hC0 hle0 hk).mono fun e W' ⟨he, bel⟩ => ?_
  subst he
  exact ⟨_, rfl, _, _, _, [], _, [], hW', trodAll_mk1 (shut_bool Tryd.underlying4 _), (trodAll_cons_mk (Below.trod laidOut (by kernel_rfl) (of_decide_eq_true (by kernel_rfl)) k0 bel lt0) (trodAll_cons_mk (shut_int Tryd.underlying3 w1) (trodAll_cons_mk (shut_int Tryd.underlying3 w2) trodAll_mk0))), rfl, bel.frame _, fun h => by cases h⟩
set_option maxRecDepth 100000 in
theorem closed : joinedFacts Tryd.prog 4 Tryd.f4 Rows.fnExactBooksFarSpec Rows.fnExactBooksFarRow = true := by
  have hf : (Rows.fnExactBooksFarRow.lifted == Tryd.prog.liftsFinal) = true := by rw [Head.finE]; kernel_rfl
  have hm : (Tryd.prog.make == some Rows.fnExactBooksFarRow.make) = true := by rw [Head.makeE]; kernel_rfl
  unfold joinedFacts
  repeat' (with_reducible refine Head.and_t ?_ ?_)
  all_goals first | with_reducible exact Head.mayE | with_reducible exact hf | with_reducible exact hm | (as_aux_lemma => kernel_rfl)
theorem over : Rows.fnExactBooksFarRow.holds Tryd.pinned (OpenSpec.ofChange Rows.fnExactBooksFarSpec) :=
  OpenClaim.holds_of_wide 4 Tryd.f4 rfl rfl rfl rfl rfl rfl rfl ⟨rfl, rfl, rfl, rfl, rfl⟩ rfl rfl rfl rfl rfl (by kernel_rfl) Tryd.func4 closed
    (of_decide_eq_true (by kernel_rfl)) (by unfold Func.isWrapper; first | (rw [if_pos (by decide +kernel)]; kernel_rfl) | (rw [if_neg (by decide +kernel)]; exact ⟨rfl, rfl⟩))
    (fun os started H enc _ => lifted os started H enc)
theorem card_ : Rows.FnExactBooksFarCardSaid :=
  Claim7.holds_tied_plain_at .later [] [.data, .pinned] true (true, "a175d7172c173241a438c52cad8f2cbb84e6b24e3ac681f1c733cbb943b1f07c") false
    over (fun _ h => by cases h) (by as_aux_lemma => kernel_rfl) (fun _ h => by cases h) fnExactBooksFar_row_tie rfl ⟨rfl, rfl⟩ (Head.mainE.trans (by as_aux_lemma => kernel_rfl)) rfl
    (fun f fn hf hfn => by
      obtain rfl : f = 4 := Option.some.inj ((show Tryd.prog.funcNamed "loop.example/neumes/laws.FnExactBooksFar" = some 4 by kernel_rfl).symm.trans hf) |>.symm
      obtain rfl : fn = Tryd.f4 := (Option.some.inj (Tryd.func4.symm.trans hfn)).symm
      exact ⟨by kernel_rfl, fun j t ht => by
        rw [Tryd.params4] at ht
        have hm : t ∈ [22, 3, 3] := by simpa using Array.mem_of_getElem? ht
        have hall : ([22, 3, 3].all fun u => !Tryd.prog.wantsStandIn u) = true := by kernel_rfl
        exact (show Tryd.prog.wantsStandIn t = false by simpa using List.all_eq_true.1 hall t hm)⟩)
    (by kernel_rfl)
theorem proved : Rows.FnExactBooksFarCardSaid := card_
#print axioms proved
end Go.Proofs.YtejoneninbdjbaaDoor.fnExactBooksFar
namespace Go.Proofs.YtejoneninbdjbaaDoor
theorem fnExactBooksFar_holds : Rows.FnExactBooksFarCardSaid := fnExactBooksFar.proved
end Go.Proofs.YtejoneninbdjbaaDoor
end
