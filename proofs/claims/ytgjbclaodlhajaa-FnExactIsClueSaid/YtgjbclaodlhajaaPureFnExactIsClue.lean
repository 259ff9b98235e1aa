/- For all arguments within the row's reach the law FnExactIsClue answers true.
No further conditions. -/
import Derived.Test.YtgjbclaodlhajaaPFnExactIsCluex0
import Derived.Test.YtgjbclaodlhajaaPFnExactIsCluex1
import Derived.Test.YtgjbclaodlhajaaPFnExactIsCluexs
set_option linter.unusedVariables false
set_option linter.unusedSimpArgs false
namespace Go.Proofs.Ytgjbclaodlhajaa.Pure
open Go.RowKit Go.Proofs.Ytgjbclaodlhajaa.PFnExactIsClue Go.Proofs.YtgjbclaodlhajaaW.PrintWords Go.Proofs.YtgjbclaodlhajaaW.PrintLast Go.Proofs.YtgjbclaodlhajaaW.PrintMore
theorem Ev.pos {α : Type} {c : Prop} [Decidable c] {g f : Nat → Option α} {r : α} (hc : c) (h : Ev g r) : Ev (fun k => if c then g k else f k) r := by
  obtain ⟨K, h⟩ := h
  exact ⟨K, fun k hk => by show (if c then g k else f k) = _; rw [if_pos hc]; exact h k hk⟩
theorem Ev.neg {α : Type} {c : Prop} [Decidable c] {g f : Nat → Option α} {r : α} (hc : ¬ c) (h : Ev f r) : Ev (fun k => if c then g k else f k) r := by
  obtain ⟨K, h⟩ := h
  exact ⟨K, fun k hk => by show (if c then g k else f k) = _; rw [if_neg hc]; exact h k hk⟩
theorem Ev.val {α : Type} {a r : α} (h : a = r) : Ev (fun _ => some a) r := ⟨0, fun _ _ => by rw [h]⟩
theorem Ev.const {α : Type} {a : Option α} {r : α} (h : a = some r) : Ev (fun _ => a) r := ⟨0, fun _ _ => h⟩
theorem Ev.bindc {α β : Type} {a : Option α} {f : Nat → α → Option β} {x : α} {r : β} (h : a = some x) (k : Ev (fun n => f n x) r) : Ev (fun n => a.bind (f n)) r := by
  obtain ⟨K, k⟩ := k
  exact ⟨K, fun n hn => by show a.bind (f n) = _; rw [h]; exact k n hn⟩
theorem Ev.eq {α : Type} {g : Nat → Option α} {r r' : α} (h : Ev g r) (e : r = r') : Ev g r' := e ▸ h
theorem Ev.ite {α : Type} {c : Prop} [Decidable c] {g f : Nat → Option α} {r : α} (h : c → Ev g r) (h' : ¬ c → Ev f r) : Ev (fun k => if c then g k else f k) r := by
  by_cases hc : c
  · exact Ev.pos hc (h hc)
  · exact Ev.neg hc (h' hc)
theorem rd_eq (l : List Int) (i : Nat) (h : i < l.length) : rd l (i : Int) = l[i] := by simp [rd, List.getD_eq_getElem?_getD, List.getElem?_eq_getElem h]
theorem rd_app (p : List Int) (x : Int) (s : List Int) : rd (p ++ x :: s) (p.length : Int) = x := by simp [rd, List.getD_eq_getElem?_getD]
theorem w64 {n : Int} (h0 : -9223372036854775808 ≤ n) (h1 : n ≤ 9223372036854775807) : wrap64 n = n := by unfold wrap64; omega
theorem spec_l1In.val (a b c : Int) : spec_l1In.f a b c = some (decide (b ≤ a) && decide (a ≤ c)) := by
  unfold spec_l1In.f
  by_cases h : a ≥ b
  · rw [if_pos h]; simp [show b ≤ a from h]
  · rw [if_neg h]; simp [show ¬ b ≤ a from h]
theorem impl_within.val (a b c : Int) : impl_within.f a b c = some (decide (b ≤ a) && decide (a ≤ c)) := by
  unfold impl_within.f
  by_cases h : b ≤ a
  · rw [if_pos h]; simp [h]
  · rw [if_neg h]; simp [h]
/-- No element is less than the one before. -/
def sortedB : List Int → Bool
  | [] => true
  | [_] => true
  | x :: y :: s => decide (x ≤ y) && sortedB (y :: s)
theorem sortedB_iff (l : List Int) : sortedB l = true ↔ ∀ i : Nat, ∀ h : i + 1 < l.length, l[i] ≤ l[i + 1] := by
  induction l with
  | nil => simp [sortedB]
  | cons x s ih =>
    cases s with
    | nil => simp [sortedB]
    | cons y s =>
      simp only [sortedB, Bool.and_eq_true, decide_eq_true_eq, ih]
      constructor
      · rintro ⟨h1, h2⟩ i hi
        cases i with
        | zero => exact h1
        | succ i => exact h2 i (by simpa using hi)
      · intro h
        exact ⟨h 0 (by simp), fun i hi => h (i + 1) (by simpa using hi)⟩
theorem ite_and (t x : Bool) : (if t = true then some x else some false) = some (t && x) := by cases t <;> rfl
def inB (a b c : Int) : Bool := decide (b ≤ a) && decide (a ≤ c)
def clueB (k a b : Int) : Bool :=
  if k = 0 then inB a 0 4 && b == 0
  else if k = 1 then inB a 0 24 && b == 0
  else if k = 3 then inB a 0 24 && b == 0
  else if k = 2 then inB a 0 24 && inB b 0 1
  else if k = 4 then inB a 0 24 && inB b 0 16
  else if k = 5 then inB a 1 6 && inB b 0 4
  else false
theorem spec_l1In.valB (a b c : Int) : spec_l1In.f a b c = some (inB a b c) := spec_l1In.val a b c
theorem spec_pzClue.ev (k a b : Int) : Ev (fun n => spec_pzClue.f n k a b) (clueB k a b) := by
  unfold spec_pzClue.f
  by_cases h0 : k = 0
  · refine Ev.pos h0 (Ev.const ?_)
    rw [spec_l1In.valB, Option.bind_some, ite_and]; simp [clueB, h0]
  · refine Ev.neg h0 ?_
    by_cases h1 : k = 1
    · refine Ev.pos h1 (Ev.step (f := fun _ => some (clueB k a b)) (fun n => ?_) (Ev.val rfl))
      subst h1
      rw [spec_pzClue.j0, if_pos (by rfl), spec_l1In.valB, Option.bind_some, ite_and]; simp [clueB]
    · refine Ev.neg h1 (Ev.step (f := fun _ => some (clueB k a b)) (fun n => ?_) (Ev.val rfl))
      rw [spec_pzClue.j0]
      by_cases h3 : k = 3
      · subst h3
        rw [if_pos (by rfl), spec_l1In.valB, Option.bind_some, ite_and]; simp [clueB]
      · rw [if_neg (by simp [h3])]
        simp only [spec_l1In.valB, Option.bind_some, ite_and]
        unfold clueB
        rw [if_neg h0, if_neg h1, if_neg h3]
        by_cases h2 : k = 2
        · rw [if_pos h2, if_pos h2]
        · rw [if_neg h2, if_neg h2]
          by_cases h4 : k = 4
          · rw [if_pos h4, if_pos h4]
          · rw [if_neg h4, if_neg h4]
            by_cases h5 : k = 5
            · rw [if_pos h5, if_pos h5]
            · rw [if_neg h5, if_neg h5]
theorem spec_IsClue.ev (k a b : Int) : Ev (fun n => spec_IsClue.f n k a b) (clueB k a b) := by
  unfold spec_IsClue.f
  exact Ev.bind (spec_pzClue.ev k a b) (Ev.val rfl)
theorem impl_within.valB (a b c : Int) : impl_within.f a b c = some (inB a b c) := impl_within.val a b c
theorem impl_IsClue.ev (k a b : Int) : Ev (fun n => impl_IsClue.f n k a b) (clueB k a b) := by
  unfold impl_IsClue.f
  by_cases h0 : k = 0
  · refine Ev.pos h0 (Ev.const ?_)
    rw [impl_within.valB, Option.bind_some, ite_and]; simp [clueB, h0]
  · refine Ev.neg h0 ?_
    by_cases h1 : k = 1
    · refine Ev.pos h1 (Ev.step (f := fun _ => some (clueB k a b)) (fun n => ?_) (Ev.val rfl))
      subst h1
      rw [impl_IsClue.j0, if_pos (by rfl), impl_within.valB, Option.bind_some, ite_and]; simp [clueB]
    · refine Ev.neg h1 (Ev.step (f := fun _ => some (clueB k a b)) (fun n => ?_) (Ev.val rfl))
      rw [impl_IsClue.j0]
      by_cases h3 : k = 3
      · subst h3
        rw [if_pos (by rfl), impl_within.valB, Option.bind_some, ite_and]; simp [clueB]
      · rw [if_neg (by simp [h3])]
        simp only [impl_within.valB, Option.bind_some, ite_and]
        unfold clueB
        rw [if_neg h0, if_neg h1, if_neg h3]
        by_cases h2 : k = 2
        · rw [if_pos h2, if_pos h2]
        · rw [if_neg h2, if_neg h2]
          by_cases h4 : k = 4
          · rw [if_pos h4, if_pos h4]
          · rw [if_neg h4, if_neg h4]
            by_cases h5 : k = 5
            · rw [if_pos h5, if_pos h5]
            · rw [if_neg h5, if_neg h5]
theorem laws_toClue.val (k a b : Int) : laws_toClue.f k a b = some (k, a, b) := rfl
theorem FnExactIsClue : laws_FnExactIsClue.Pure := by
  intro k a b _ _ _
  refine Ev.rounds (g := fun n => laws_FnExactIsClue.f n k a b) ?_
  unfold laws_FnExactIsClue.f
  refine Ev.bindc (laws_toClue.val k a b) (Ev.bind (spec_IsClue.ev k a b) (Ev.bindc (laws_toClue.val k a b) (Ev.bind (impl_IsClue.ev k a b) (Ev.neg (by simp) (Ev.val rfl)))))
end Go.Proofs.Ytgjbclaodlhajaa.Pure
