/- Functions with rounds: with enough of them they tell something that meets a property. -/
import Derived.Test.YthpeiboobnnfgaaWMore
namespace Go.Proofs.Ythpeiboobnnfgaa.Pur
open Go.RowKit Go.Proofs.YthpeiboobnnfgaaW.PrintWords

/-- With enough rounds it tells something that meets P. -/
def EvP {α : Type} (g : Nat → Option α) (P : α → Prop) : Prop := ∃ r, Ev g r ∧ P r

section
variable {α β : Type}
theorem EvP.bind {g : Nat → Option α} {f : Nat → α → Option β} {P : α → Prop} {Q : β → Prop} (h : EvP g P) (k : ∀ a, P a → EvP (fun n => f n a) Q) : EvP (fun n => (g n).bind (f n)) Q := by
  obtain ⟨a, ha, hp⟩ := h
  obtain ⟨b, hb, hq⟩ := k a hp
  exact ⟨b, Ev.bind ha hb, hq⟩
theorem EvP.ret {P : α → Prop} {r : α} (h : P r) : EvP (fun _ => some r) P := ⟨r, Ev.now r, h⟩
theorem EvP.con {o : Option α} {P : α → Prop} {r : α} (h : o = some r) (hp : P r) : EvP (fun _ => o) P := by subst h; exact .ret hp
theorem EvP.ite {c : Prop} [Decidable c] {f g : Nat → Option α} {P : α → Prop} (h : c → EvP f P) (k : ¬ c → EvP g P) : EvP (fun n => if c then f n else g n) P := by
  by_cases hc : c
  · obtain ⟨r, hr, hp⟩ := h hc
    exact ⟨r, Ev.congr (fun n => if_pos hc) hr, hp⟩
  · obtain ⟨r, hr, hp⟩ := k hc
    exact ⟨r, Ev.congr (fun n => if_neg hc) hr, hp⟩
theorem EvP.yes {c : Prop} [Decidable c] {f g : Nat → Option α} {P : α → Prop} (hc : c) (h : EvP f P) : EvP (fun n => if c then f n else g n) P := .ite (fun _ => h) (fun k => absurd hc k)
theorem EvP.no {c : Prop} [Decidable c] {f g : Nat → Option α} {P : α → Prop} (hc : ¬ c) (h : EvP g P) : EvP (fun n => if c then f n else g n) P := .ite (fun k => absurd k hc) (fun _ => h)
theorem EvP.step {g f : Nat → Option α} {P : α → Prop} (h : ∀ k, g (k + 1) = f k) (k : EvP f P) : EvP g P := by
  obtain ⟨r, hr, hp⟩ := k
  exact ⟨r, Ev.step h hr, hp⟩
theorem EvP.succ {g : Nat → Option α} {P : α → Prop} (k : EvP (fun n => g (n + 1)) P) : EvP g P := EvP.step (fun _ => rfl) k
theorem EvP.mono {g : Nat → Option α} {P Q : α → Prop} (h : EvP g P) (k : ∀ r, P r → Q r) : EvP g Q := by
  obtain ⟨r, hr, hp⟩ := h
  exact ⟨r, hr, k r hp⟩
theorem EvP.rounds {g : Nat → Option α} {r : α} (h : EvP g (· = r)) : ∃ k, g k = some r := by
  obtain ⟨_, hr, rfl⟩ := h
  exact hr.rounds
theorem EvP.ev {g : Nat → Option α} {r : α} (h : EvP g (· = r)) : Ev g r := by
  obtain ⟨_, hr, rfl⟩ := h
  exact hr
theorem EvP.of {g : Nat → Option α} {P : α → Prop} {r : α} (h : Ev g r) (hp : P r) : EvP g P := ⟨r, h, hp⟩
end

/-- A fact that linear arithmetic doesn't look into. -/
structure Hd (p : Prop) : Prop where mk :: (out : p)
theorem w64 {i : Int} (h0 : -9223372036854775808 ≤ i) (h1 : i ≤ 9223372036854775807) : wrap64 i = i := by unfold wrap64; omega
theorem tmod_pos {a : Int} (b : Int) (h : 0 ≤ a) : Int.tmod a b = a % b := Int.tmod_eq_emod_of_nonneg h
theorem tdiv_pos {a : Int} (b : Int) (h : 0 ≤ a) : Int.tdiv a b = a / b := Int.tdiv_eq_ediv_of_nonneg h
theorem toNat_nat (n : Nat) : ((n : Int)).toNat = n := rfl
theorem toNat_succ (n : Nat) : ((n : Int) + 1).toNat = n + 1 := by omega
end Go.Proofs.Ythpeiboobnnfgaa.Pur
