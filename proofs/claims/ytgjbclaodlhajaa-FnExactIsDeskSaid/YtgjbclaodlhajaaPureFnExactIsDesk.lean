/- For all arguments within the row's reach the law FnExactIsDesk answers true.
No further conditions. -/
import Derived.Test.YtgjbclaodlhajaaPFnExactIsDeskx0
import Derived.Test.YtgjbclaodlhajaaPFnExactIsDeskx1
import Derived.Test.YtgjbclaodlhajaaPFnExactIsDeskx2
import Derived.Test.YtgjbclaodlhajaaPFnExactIsDeskx3
import Derived.Test.YtgjbclaodlhajaaPFnExactIsDeskxs
set_option linter.unusedVariables false
set_option linter.unusedSimpArgs false
namespace Go.Proofs.Ytgjbclaodlhajaa.Pure
open Go.RowKit Go.Proofs.Ytgjbclaodlhajaa.PFnExactIsDesk Go.Proofs.YtgjbclaodlhajaaW.PrintWords Go.Proofs.YtgjbclaodlhajaaW.PrintLast Go.Proofs.YtgjbclaodlhajaaW.PrintMore
theorem Ev.pos {α : Type} {c : Prop} [Decidable c] {g f : Nat → Option α} {r : α} (hc : c) (h : Ev g r) : Ev (fun k => if c then g k else f k) r := by
  obtain ⟨K, h⟩ := h
  exact ⟨K, fun k hk => by show (if c then g k else f k) = _; rw [if_pos hc]; exact h k hk⟩
theorem Ev.neg {α : Type} {c : Prop} [Decidable c] {g f : Nat → Option α} {r : α} (hc : ¬ c) (h : Ev f r) : Ev (fun k => if c then g k else f k) r := by
  obtain ⟨K, h⟩ := h
  exact ⟨K, fun k hk => by show (if c then g k else f k) = _; rw [if_neg hc]; exact h k hk⟩
theorem Ev.val {α : Type} {a r : α} (h : a = r) : Ev (fun _ => some a) r := ⟨0, fun _ _ => by rw [h]⟩
theorem Ev.const {α : Type} {a : Option α} {r : α} (h : a = some r) : Ev (fun _ => a) r := ⟨0, fun _ _ => h⟩
theorem Ev.bindc {α β : Type} {a : Option α} {f : Nat → α → Option β} {x : α} {r : β} (h : a = some x) (k : Ev (fun n => f n x) r) : Ev (fun n => a.bind (f n)) r := by
  obtain ⟨K, k⟩ := k
  exact ⟨K, fun n hn => by show a.bind (f n) = _; rw [h]; exact k n hn⟩
theorem Ev.eq {α : Type} {g : Nat → Option α} {r r' : α} (h : Ev g r) (e : r = r') : Ev g r' := e ▸ h
def inB (a b c : Int) : Bool := decide (b ≤ a) && decide (a ≤ c)
theorem Ev.ite {α : Type} {c : Prop} [Decidable c] {g f : Nat → Option α} {r : α} (h : c → Ev g r) (h' : ¬ c → Ev f r) : Ev (fun k => if c then g k else f k) r := by
  by_cases hc : c
  · exact Ev.pos hc (h hc)
  · exact Ev.neg hc (h' hc)
theorem rd_eq (l : List Int) (i : Nat) (h : i < l.length) : rd l (i : Int) = l[i] := by simp [rd, List.getD_eq_getElem?_getD, List.getElem?_eq_getElem h]
theorem rd_app (p : List Int) (x : Int) (s : List Int) : rd (p ++ x :: s) (p.length : Int) = x := by simp [rd, List.getD_eq_getElem?_getD]
theorem w64 {n : Int} (h0 : -9223372036854775808 ≤ n) (h1 : n ≤ 9223372036854775807) : wrap64 n = n := by unfold wrap64; omega
theorem laws_toIntS.ev_l (l : List Int) (hl : l.length ≤ 35184372088832) (d : Nat) : ∀ (acc : List Int) (i : Nat), acc.length = l.length → i + d = l.length → (∀ j, j < i → acc[j]? = l[j]?) → Ev (fun k => laws_toIntS.l0 k l acc (i : Int)) l := by
  induction d with
  | zero =>
    intro acc i ha hi hj
    refine Ev.step (f := fun _ => some acc) (fun k => ?_) (Ev.val ?_)
    · rw [laws_toIntS.l0, if_neg (by omega)]
    · apply List.ext_getElem?
      intro j
      by_cases h : j < i
      · exact hj j h
      · rw [List.getElem?_eq_none (by omega), List.getElem?_eq_none (by omega)]
  | succ d ih =>
    intro acc i ha hi hj
    have hlt : i < l.length := by omega
    refine Ev.step (f := fun k => laws_toIntS.l0 k l (acc.set i l[i]) ((i + 1 : Nat) : Int)) (fun k => ?_) (ih (acc.set i l[i]) (i + 1) (by simp [ha]) (by omega) ?_)
    · rw [laws_toIntS.l0, if_pos (by omega), if_pos (by omega), if_pos (by omega), w64 (by omega) (by omega), rd_eq l i hlt]
      simp
    · intro j hj'
      by_cases e : j = i
      · subst e; rw [List.getElem?_set_self (by omega), List.getElem?_eq_getElem hlt]
      · rw [List.getElem?_set_ne (by omega)]; exact hj j (by omega)
theorem laws_toIntS.ev (l : List Int) (hl : l.length ≤ 35184372088832) : Ev (fun k => laws_toIntS.f k l) l := by
  have h := laws_toIntS.ev_l l hl l.length (List.replicate l.length 0) 0 (by simp) (by omega) (fun j hj => absurd hj (by omega))
  refine Ev.congr (fun k => ?_) h
  simp only [laws_toIntS.f]
  rw [if_pos (by omega), if_pos (by omega)]
  simp
theorem laws_eqIntS.ev_l (s t : List Int) (hl : s.length ≤ 35184372088832) : ∀ (p : List Int), p.length + s.length ≤ 35184372088832 → s.length = t.length → ∀ q : List Int, q.length = p.length → Ev (fun k => laws_eqIntS.l0 k (p ++ s) (q ++ t) (p.length : Int)) (decide (s = t)) := by
  induction s generalizing t with
  | nil =>
    intro p hp ht q hq
    obtain rfl : t = [] := List.eq_nil_of_length_eq_zero (by simpa using ht.symm)
    refine Ev.step (f := fun _ => some true) (fun k => ?_) (Ev.val (by simp))
    rw [laws_eqIntS.l0, if_neg (by simp)]
  | cons x s ih =>
    intro p hp ht q hq
    obtain _ | ⟨y, t⟩ := t
    · simp at ht
    simp only [List.length_cons] at ht hp hl
    have e1 : rd (p ++ x :: s) (p.length : Int) = x := rd_app p x s
    have e2 : rd (q ++ y :: t) (p.length : Int) = y := by rw [← hq]; exact rd_app q y t
    by_cases e : x = y
    · subst e
      have h := ih t (by omega) (p ++ [x]) (by simp <;> omega) (by omega) (q ++ [x]) (by simp [hq])
      refine Ev.step (f := fun k => laws_eqIntS.l0 k ((p ++ [x]) ++ s) ((q ++ [x]) ++ t) ((p ++ [x]).length : Int)) (fun k => ?_) (Ev.eq h (by simp))
      rw [laws_eqIntS.l0, if_pos (by simp <;> omega), if_pos (by omega), if_pos (by simp <;> omega), e1, e2, if_pos rfl, w64 (by omega) (by omega)]
      simp
    · refine Ev.step (f := fun _ => some false) (fun k => ?_) (Ev.val (by simp [e]))
      rw [laws_eqIntS.l0, if_pos (by simp <;> omega), if_pos (by omega), if_pos (by simp <;> omega), e1, e2, if_neg e]
theorem laws_eqIntS.ev (s t : List Int) (hl : s.length ≤ 35184372088832) : Ev (fun k => laws_eqIntS.f k s t) (decide (s = t)) := by
  unfold laws_eqIntS.f
  refine Ev.ite (fun h => ?_) (fun h => Ev.val ?_)
  · exact laws_eqIntS.ev_l s t hl [] (by simpa using hl) (by omega) [] rfl
  · have : s ≠ t := by rintro rfl; exact h rfl
    simp [this]
theorem spec_l1In.val (a b c : Int) : spec_l1In.f a b c = some (decide (b ≤ a) && decide (a ≤ c)) := by
  unfold spec_l1In.f
  by_cases h : a ≥ b
  · rw [if_pos h]; simp [show b ≤ a from h]
  · rw [if_neg h]; simp [show ¬ b ≤ a from h]
theorem spec_l1In.valB (a b c : Int) : spec_l1In.f a b c = some (inB a b c) := spec_l1In.val a b c
theorem spec_l1All.ev_l (a b : Int) (s : List Int) : ∀ (p : List Int), p.length + s.length ≤ 9223372036854775807 → Ev (fun k => spec_l1All.l0 k a b (p ++ s) ((p ++ s).length : Int) (p.length : Int)) (s.all fun x => decide (a ≤ x) && decide (x ≤ b)) := by
  induction s with
  | nil =>
    intro p hp
    refine Ev.step (f := fun _ => some true) (fun k => ?_) (Ev.val (by simp))
    rw [spec_l1All.l0, if_neg (by simp)]
  | cons x s ih =>
    intro p hp
    simp only [List.length_cons] at hp
    have h := ih (p ++ [x]) (by simp <;> omega)
    by_cases c : (decide (a ≤ x) && decide (x ≤ b)) = true
    · refine Ev.step (f := fun k => spec_l1All.l0 k a b ((p ++ [x]) ++ s) (((p ++ [x]) ++ s).length : Int) ((p ++ [x]).length : Int)) (fun k => ?_) (Ev.eq h (by simp only [List.all_cons]; rw [c]; rfl))
      rw [spec_l1All.l0, if_pos (by simp <;> omega), if_pos (by omega), if_pos (by simp <;> omega), rd_app, spec_l1In.val, Option.bind_some, if_pos c, w64 (by omega) (by omega)]
      simp
    · refine Ev.step (f := fun _ => some false) (fun k => ?_) (Ev.val (by simp only [List.all_cons]; rw [Bool.not_eq_true] at c; rw [c]; rfl))
      rw [spec_l1All.l0, if_pos (by simp <;> omega), if_pos (by omega), if_pos (by simp <;> omega), rd_app, spec_l1In.val, Option.bind_some, if_neg c]
theorem spec_l1All.ev (l : List Int) (a b : Int) (hl : l.length ≤ 9223372036854775807) : Ev (fun k => spec_l1All.f k l a b) (l.all fun x => decide (a ≤ x) && decide (x ≤ b)) :=
  spec_l1All.ev_l a b l [] (by simpa using hl)
/-- No element is less than the one before. -/
def sortedB : List Int → Bool
  | [] => true
  | [_] => true
  | x :: y :: s => decide (x ≤ y) && sortedB (y :: s)
theorem sortedB_iff (l : List Int) : sortedB l = true ↔ ∀ i : Nat, ∀ h : i + 1 < l.length, l[i] ≤ l[i + 1] := by
  induction l with
  | nil => simp [sortedB]
  | cons x s ih =>
    cases s with
    | nil => simp [sortedB]
    | cons y s =>
      simp only [sortedB, Bool.and_eq_true, decide_eq_true_eq, ih]
      constructor
      · rintro ⟨h1, h2⟩ i hi
        cases i with
        | zero => exact h1
        | succ i => exact h2 i (by simpa using hi)
      · intro h
        exact ⟨h 0 (by simp), fun i hi => h (i + 1) (by simpa using hi)⟩
theorem spec_piGood.ev_l (s : List Int) : ∀ (p : List Int) (x : Int), p.length + s.length + 1 ≤ 9223372036854775806 → Ev (fun k => spec_piGood.l0 k (p ++ x :: s) ((p.length + 1 : Nat) : Int)) (sortedB (x :: s)) := by
  induction s with
  | nil =>
    intro p x hp
    refine Ev.step (f := fun _ => some true) (fun k => ?_) (Ev.val (by simp [sortedB]))
    rw [spec_piGood.l0, if_neg (by simp)]
  | cons y s ih =>
    intro p x hp
    simp only [List.length_cons] at hp
    have e1 : rd (p ++ x :: y :: s) (p.length : Int) = x := rd_app p x _
    have e2 : rd (p ++ x :: y :: s) ((p.length + 1 : Nat) : Int) = y := by
      have := rd_app (p ++ [x]) y s
      simpa using this
    have hw : wrap64 (((p.length + 1 : Nat) : Int) - 1) = (p.length : Int) := by rw [w64 (by omega) (by omega)]; omega
    by_cases c : x ≤ y
    · have h := ih (p ++ [x]) y (by simp <;> omega)
      refine Ev.step (f := fun k => spec_piGood.l0 k ((p ++ [x]) ++ y :: s) (((p ++ [x]).length + 1 : Nat) : Int)) (fun k => ?_) (Ev.eq h (by simp [sortedB, c]))
      rw [spec_piGood.l0, if_pos (by simp <;> omega), hw, if_pos (by omega), if_pos (by simp <;> omega), if_pos (by omega), e1, e2, if_neg (by omega), w64 (by omega) (by omega)]
      simp
    · refine Ev.step (f := fun _ => some false) (fun k => ?_) (Ev.val (by simp [sortedB, c]))
      rw [spec_piGood.l0, if_pos (by simp <;> omega), hw, if_pos (by omega), if_pos (by simp <;> omega), if_pos (by omega), e1, e2, if_pos (by omega)]
def piGoodB (l : List Int) : Bool := decide (l.length ≤ 20) && (l.all fun x => decide (1 ≤ x) && decide (x ≤ 10000)) && sortedB l
theorem spec_piGood.ev (l : List Int) (hl : l.length ≤ 9223372036854775806) : Ev (fun k => spec_piGood.f k l) (piGoodB l) := by
  unfold spec_piGood.f
  refine Ev.ite (fun h => ?_) (fun h => ?_)
  · refine Ev.step (f := fun _ => some false) (fun k => ?_) (Ev.val ?_)
    · rw [spec_piGood.j0, if_pos rfl]
    · unfold piGoodB; rw [decide_eq_false (by omega)]; rfl
  · refine Ev.bind (spec_l1All.ev l 1 10000 (by omega)) ?_
    by_cases c : (l.all fun x => decide (1 ≤ x) && decide (x ≤ 10000)) = true
    · refine Ev.step (f := fun k => spec_piGood.l0 k l 1) (fun k => ?_) ?_
      · rw [spec_piGood.j0, c, if_neg (by decide)]
      · have e : piGoodB l = sortedB l := by unfold piGoodB; rw [c, decide_eq_true (by omega)]; rfl
        rw [e]
        cases l with
        | nil =>
          refine Ev.step (f := fun _ => some true) (fun k => ?_) (Ev.val (by simp [sortedB]))
          rw [spec_piGood.l0, if_neg (by simp)]
        | cons x s => exact spec_piGood.ev_l s [] x (by simp at hl ⊢; omega)
    · rw [Bool.not_eq_true] at c
      refine Ev.step (f := fun _ => some false) (fun k => ?_) (Ev.val ?_)
      · rw [spec_piGood.j0, c, if_pos (by decide)]
      · unfold piGoodB; rw [c]; simp
theorem impl_areWithin.val (l : List Int) (a b : Int) : impl_areWithin.f l a b = some (l.all fun x => decide (a ≤ x) && decide (x ≤ b)) := rfl
theorem cmp_Less_int.val (a b : Int) : cmp_Less_int.f a b = some (decide (a < b)) := by simp [cmp_Less_int.f, cmp_isNaN_int.f]
theorem slices_IsSorted_int_int.ev_l (l : List Int) (hl : l.length ≤ 9223372036854775806) (i : Nat) : i < l.length → Ev (fun k => slices_IsSorted_int_int.l0 k l (i : Int)) (sortedB (l.take (i + 1))) := by
  induction i with
  | zero =>
    intro hi
    refine Ev.step (f := fun _ => some true) (fun k => ?_) (Ev.val ?_)
    · rw [slices_IsSorted_int_int.l0, if_neg (by omega)]
    · cases l with
      | nil => rfl
      | cons x s => simp [sortedB]
  | succ i ih =>
    intro hi
    have h := ih (by omega)
    have hw : wrap64 (((i + 1 : Nat) : Int) - 1) = (i : Int) := by rw [w64 (by omega) (by omega)]; omega
    have key : sortedB (l.take (i + 1 + 1)) = (decide (l[i] ≤ l[i + 1]) && sortedB (l.take (i + 1))) := by
      rw [Bool.eq_iff_iff, Bool.and_eq_true, decide_eq_true_eq, sortedB_iff, sortedB_iff]
      constructor
      · intro h
        refine ⟨by have := h i (by simp <;> omega); simpa using this, fun j hj => ?_⟩
        have hj' : j + 1 < i + 1 := by simp at hj; omega
        have := h j (by simp <;> omega)
        simpa using this
      · rintro ⟨h1, h2⟩ j hj
        have hj' : j + 1 < i + 1 + 1 := by simp at hj; omega
        by_cases e : j = i
        · subst e; simpa using h1
        · have := h2 j (by simp <;> omega)
          simpa using this
    by_cases c : l[i + 1] < l[i]
    · refine Ev.step (f := fun _ => some false) (fun k => ?_) (Ev.val (by rw [key, decide_eq_false (by omega)]; rfl))
      rw [slices_IsSorted_int_int.l0, if_pos (by omega), if_pos (by omega), if_pos (by omega), hw, if_pos (by omega), if_pos (by omega), rd_eq l _ hi, rd_eq l i (by omega), cmp_Less_int.val, Option.bind_some, if_pos (by simpa using c)]
    · refine Ev.step (f := fun k => slices_IsSorted_int_int.l0 k l (i : Int)) (fun k => ?_) (Ev.eq h (by rw [key, decide_eq_true (by omega)]; rfl))
      rw [slices_IsSorted_int_int.l0, if_pos (by omega), if_pos (by omega), if_pos (by omega), hw, if_pos (by omega), if_pos (by omega), rd_eq l _ hi, rd_eq l i (by omega), cmp_Less_int.val, Option.bind_some, if_neg (by simpa using c)]
theorem slices_IsSorted_int_int.ev (l : List Int) (hl : l.length ≤ 9223372036854775806) : Ev (fun k => slices_IsSorted_int_int.f k l) (sortedB l) := by
  unfold slices_IsSorted_int_int.f
  cases l with
  | nil =>
    refine Ev.step (f := fun _ => some true) (fun k => ?_) (Ev.val (by simp [sortedB]))
    rw [slices_IsSorted_int_int.l0, if_neg (by rw [w64 (by simp) (by simp)]; simp)]
  | cons x s =>
    have h := slices_IsSorted_int_int.ev_l (x :: s) hl s.length (by simp)
    have hw : wrap64 ((((x :: s).length : Nat) : Int) - 1) = (s.length : Int) := by
      simp only [List.length_cons] at hl ⊢
      rw [w64 (by omega) (by omega)]; omega
    rw [hw]
    refine Ev.eq h ?_
    rw [List.take_of_length_le (by simp)]
theorem ite_and (t x : Bool) : (if t = true then some x else some false) = some (t && x) := by cases t <;> rfl
def clueB (k a b : Int) : Bool :=
  if k = 0 then inB a 0 4 && b == 0
  else if k = 1 then inB a 0 24 && b == 0
  else if k = 3 then inB a 0 24 && b == 0
  else if k = 2 then inB a 0 24 && inB b 0 1
  else if k = 4 then inB a 0 24 && inB b 0 16
  else if k = 5 then inB a 1 6 && inB b 0 4
  else false
theorem laws_szIntS.val (l : List Int) (a : Int) (hl : l.length ≤ 9223372036854775807) (h0 : 0 ≤ a) (h1 : a ≤ 1048576) : laws_szIntS.f l a = some (if a < (l.length : Int) then (-1 : Int) else a - (l.length : Int)) := by
  unfold laws_szIntS.f
  rw [w64 (by omega) (by omega)]
  by_cases h : a < (l.length : Int)
  · rw [if_pos (by omega), if_pos h]
  · rw [if_neg (by omega), if_neg h]
/-- Each element is greater than the one before. -/
def risesB : List Int → Bool
  | [] => true
  | [_] => true
  | x :: y :: s => decide (x < y) && risesB (y :: s)
theorem spec_l1Rising.ev_l (a b : Int) (s : List Int) : ∀ (p : List Int) (x : Int), p.length + s.length + 1 ≤ 9223372036854775806 → Ev (fun k => spec_l1Rising.l0 k (p ++ x :: s) a b (p ++ x :: s) ((p ++ x :: s).length : Int) ((p.length + 1 : Nat) : Int)) ((s.all fun x => inB x a b) && risesB (x :: s)) := by
  induction s with
  | nil =>
    intro p x hp
    refine Ev.step (f := fun _ => some true) (fun k => ?_) (Ev.val (by simp [risesB]))
    rw [spec_l1Rising.l0, if_neg (by simp)]
  | cons y s ih =>
    intro p x hp
    simp only [List.length_cons] at hp
    have e1 : rd (p ++ x :: y :: s) (p.length : Int) = x := rd_app p x _
    have e2 : rd (p ++ x :: y :: s) ((p.length + 1 : Nat) : Int) = y := by
      have := rd_app (p ++ [x]) y s
      simpa using this
    have hw : wrap64 (((p.length + 1 : Nat) : Int) - 1) = (p.length : Int) := by rw [w64 (by omega) (by omega)]; omega
    have h := ih (p ++ [x]) y (by simp <;> omega)
    by_cases c : inB y a b = true
    · by_cases c2 : x < y
      · refine Ev.step (f := fun k => spec_l1Rising.l0 k ((p ++ [x]) ++ y :: s) a b ((p ++ [x]) ++ y :: s) (((p ++ [x]) ++ y :: s).length : Int) (((p ++ [x]).length + 1 : Nat) : Int)) (fun k => ?_) (Ev.eq h (by simp only [List.all_cons, c, risesB, c2, decide_true, Bool.true_and]))
        rw [spec_l1Rising.l0, if_pos (by simp <;> omega), if_pos (by omega), if_pos (by simp <;> omega), e2, spec_l1In.valB, Option.bind_some, if_pos c, if_pos (by omega), hw, if_pos (by omega), if_pos (by simp <;> omega), e1, if_neg (by omega), w64 (by omega) (by omega)]
        simp
      · refine Ev.step (f := fun _ => some false) (fun k => ?_) (Ev.val (by simp [risesB, c2]))
        rw [spec_l1Rising.l0, if_pos (by simp <;> omega), if_pos (by omega), if_pos (by simp <;> omega), e2, spec_l1In.valB, Option.bind_some, if_pos c, if_pos (by omega), hw, if_pos (by omega), if_pos (by simp <;> omega), e1, if_pos (by omega)]
    · refine Ev.step (f := fun _ => some false) (fun k => ?_) (Ev.val (by simp only [List.all_cons]; rw [Bool.not_eq_true] at c; rw [c]; rfl))
      rw [spec_l1Rising.l0, if_pos (by simp <;> omega), if_pos (by omega), if_pos (by simp <;> omega), e2, spec_l1In.valB, Option.bind_some, if_neg c]
theorem spec_l1Rising.ev (l : List Int) (a b : Int) (hl : l.length ≤ 9223372036854775806) : Ev (fun k => spec_l1Rising.f k l a b) ((l.all fun x => inB x a b) && risesB l) := by
  unfold spec_l1Rising.f
  cases l with
  | nil =>
    refine Ev.step (f := fun _ => some true) (fun k => ?_) (Ev.val (by simp [risesB]))
    rw [spec_l1Rising.l0, if_neg (by simp)]
  | cons x s =>
    have h := spec_l1Rising.ev_l a b s [] x (by simpa using hl)
    simp only [List.length_cons] at hl
    have e1 : rd (x :: s) 0 = x := by simp [rd]
    by_cases c : inB x a b = true
    · refine Ev.step (f := fun k => spec_l1Rising.l0 k (x :: s) a b (x :: s) ((x :: s).length : Int) ((([] : List Int).length + 1 : Nat) : Int)) (fun k => ?_) (Ev.eq h (by simp [c]))
      rw [spec_l1Rising.l0, if_pos (by simp <;> omega), if_pos (by omega), if_pos (by simp <;> omega), e1, spec_l1In.valB, Option.bind_some, if_pos c, if_neg (by omega), w64 (by omega) (by omega)]
      simp
    · refine Ev.step (f := fun _ => some false) (fun k => ?_) (Ev.val (by simp only [List.all_cons]; rw [Bool.not_eq_true] at c; rw [c]; rfl))
      rw [spec_l1Rising.l0, if_pos (by simp <;> omega), if_pos (by omega), if_pos (by simp <;> omega), e1, spec_l1In.valB, Option.bind_some, if_neg c]
theorem impl_rises.ev_l (s : List Int) : ∀ (p : List Int) (x : Int), p.length + s.length + 1 ≤ 9223372036854775806 → Ev (fun k => impl_rises.l0 k (p ++ x :: s) ((p.length + 1 : Nat) : Int)) (risesB (x :: s)) := by
  induction s with
  | nil =>
    intro p x hp
    refine Ev.step (f := fun _ => some true) (fun k => ?_) (Ev.val (by simp [risesB]))
    rw [impl_rises.l0, if_neg (by simp)]
  | cons y s ih =>
    intro p x hp
    simp only [List.length_cons] at hp
    have e1 : rd (p ++ x :: y :: s) (p.length : Int) = x := rd_app p x _
    have e2 : rd (p ++ x :: y :: s) ((p.length + 1 : Nat) : Int) = y := by
      have := rd_app (p ++ [x]) y s
      simpa using this
    have hw : wrap64 (((p.length + 1 : Nat) : Int) - 1) = (p.length : Int) := by rw [w64 (by omega) (by omega)]; omega
    by_cases c : x < y
    · have h := ih (p ++ [x]) y (by simp <;> omega)
      refine Ev.step (f := fun k => impl_rises.l0 k ((p ++ [x]) ++ y :: s) (((p ++ [x]).length + 1 : Nat) : Int)) (fun k => ?_) (Ev.eq h (by simp [risesB, c]))
      rw [impl_rises.l0, if_pos (by simp <;> omega), hw, if_pos (by omega), if_pos (by simp <;> omega), if_pos (by omega), e1, e2, if_neg (by omega), w64 (by omega) (by omega)]
      simp
    · refine Ev.step (f := fun _ => some false) (fun k => ?_) (Ev.val (by simp [risesB, c]))
      rw [impl_rises.l0, if_pos (by simp <;> omega), hw, if_pos (by omega), if_pos (by simp <;> omega), if_pos (by omega), e1, e2, if_pos (by omega)]
theorem impl_rises.ev (l : List Int) (hl : l.length ≤ 9223372036854775806) : Ev (fun k => impl_rises.f k l) (risesB l) := by
  unfold impl_rises.f
  cases l with
  | nil =>
    refine Ev.step (f := fun _ => some true) (fun k => ?_) (Ev.val (by simp [risesB]))
    rw [impl_rises.l0, if_neg (by simp)]
  | cons x s => exact impl_rises.ev_l s [] x (by simp at hl ⊢; omega)
theorem impl_ArePieces.ev (l : List Int) (hl : l.length ≤ 9223372036854775806) : Ev (fun k => impl_ArePieces.f k l) (piGoodB l) := by
  unfold impl_ArePieces.f
  refine Ev.ite (fun h => ?_) (fun h => ?_)
  · refine Ev.bindc (impl_areWithin.val l 1 10000) ?_
    refine Ev.ite (fun c => ?_) (fun c => Ev.val ?_)
    · refine Ev.bind (slices_IsSorted_int_int.ev l hl) (Ev.val ?_)
      unfold piGoodB
      rw [decide_eq_true (by omega), c]; simp
    · unfold piGoodB
      rw [Bool.not_eq_true] at c
      rw [c]; simp
  · refine Ev.val ?_
    unfold piGoodB
    rw [decide_eq_false (by omega)]; rfl
def ruGoodB (l : List Int) : Bool := decide (2 ≤ l.length) && ((l.all fun x => inB x 0 60) && risesB l) && rd l 0 == 0
theorem risesB_head {x : Int} {s : List Int} (h : risesB (x :: s) = true) : ∀ y ∈ s, x < y := by
  induction s generalizing x with
  | nil => simp
  | cons z s ih =>
    simp only [risesB, Bool.and_eq_true, decide_eq_true_eq] at h
    intro y hy
    rcases List.mem_cons.1 hy with rfl | hy
    · exact h.1
    · have := ih h.2 y hy; omega
theorem risesB_last {l : List Int} (h : risesB l = true) (hne : l ≠ []) : ∀ y ∈ l, y ≤ l.getLast hne := by
  induction l with
  | nil => exact absurd rfl hne
  | cons x s ih =>
    intro y hy
    cases s with
    | nil => simp at hy; simp [hy]
    | cons z s =>
      have h2 : risesB (z :: s) = true := by simp only [risesB, Bool.and_eq_true] at h; exact h.2
      rw [List.getLast_cons (by simp)]
      rcases List.mem_cons.1 hy with rfl | hy
      · have h1 := risesB_head h z (by simp)
        have := ih h2 (by simp) z (by simp)
        omega
      · exact ih h2 (by simp) y hy
theorem rd_last (x : Int) (s : List Int) : rd (x :: s) (s.length : Int) = (x :: s).getLast (by simp) := by
  rw [List.getLast_eq_getElem, rd_eq (x :: s) s.length (by simp)]
  simp
theorem spec_ruGood.ev (l : List Int) (hl : l.length ≤ 9223372036854775806) : Ev (fun k => spec_ruGood.f k l) (ruGoodB l) := by
  unfold spec_ruGood.f ruGoodB
  refine Ev.ite (fun h => ?_) (fun h => ?_)
  · refine Ev.bind (spec_l1Rising.ev l 0 60 hl) ?_
    refine Ev.ite (fun c => Ev.pos (by omega) (Ev.val ?_)) (fun c => Ev.val ?_)
    · rw [c, decide_eq_true (by omega)]; rfl
    · rw [Bool.not_eq_true] at c; rw [c]; simp
  · exact Ev.val (by rw [decide_eq_false (by omega)]; rfl)
theorem impl_IsRuler.ev (l : List Int) (hl : l.length ≤ 9223372036854775806) : Ev (fun k => impl_IsRuler.f k l) (ruGoodB l) := by
  unfold impl_IsRuler.f ruGoodB
  refine Ev.ite (fun h => ?_) (fun h => ?_)
  · refine Ev.pos (by omega) ?_
    refine Ev.ite (fun h0 => ?_) (fun h0 => Ev.val (by rw [show (rd l 0 == 0) = false by simpa using h0]; simp))
    rw [w64 (by omega) (by omega)]
    refine Ev.pos (by omega) (Ev.pos (by omega) ?_)
    obtain _ | ⟨x, s⟩ := l
    · simp at h
    have e : ((x :: s).length : Int) - 1 = (s.length : Int) := by simp
    rw [e, rd_last]
    have hx : x = 0 := by simpa [rd] using h0
    refine Ev.ite (fun hle => ?_) (fun hle => Ev.val ?_)
    · refine Ev.bind (impl_rises.ev _ hl) (Ev.val ?_)
      rw [decide_eq_true (by omega), show (rd (x :: s) 0 == 0) = true by simpa using h0]
      cases c : risesB (x :: s) with
      | false => simp
      | true =>
        have h1 := risesB_head c
        have h2 := risesB_last c (by simp)
        have : ((x :: s).all fun x => inB x 0 60) = true := by
          rw [List.all_eq_true]
          intro y hy
          have h3 := h2 y hy
          have h4 : 0 ≤ y := by
            rcases List.mem_cons.1 hy with rfl | hy
            · omega
            · have := h1 y hy; omega
          simp [inB]; omega
        rw [this]; rfl
    · cases c : ((x :: s).all fun x => inB x 0 60) with
      | false => simp
      | true =>
        exfalso
        rw [List.all_eq_true] at c
        have := c _ (List.getLast_mem (by simp : x :: s ≠ []))
        simp [inB] at this
        simp at hle
        omega
  · exact Ev.val (by rw [decide_eq_false (by omega)]; rfl)
theorem laws_szDesk.val (a b : List Int) (ha : a.length ≤ 9223372036854775807) (hb : b.length ≤ 9223372036854775807) : ∃ r, laws_szDesk.f a b 1048576 = some r ∧ (¬ r < 0 → (a.length : Int) ≤ 1048576 ∧ (b.length : Int) ≤ 1048576) := by
  unfold laws_szDesk.f
  rw [laws_szIntS.val a _ ha (by omega) (by omega), Option.bind_some]
  by_cases h : 1048576 < (a.length : Int)
  · refine ⟨-1, by rw [if_pos h, if_pos (by omega)], by omega⟩
  · rw [if_neg h, if_neg (by omega), laws_szIntS.val b _ hb (by omega) (by omega), Option.bind_some]
    by_cases h' : 1048576 - (a.length : Int) < (b.length : Int)
    · refine ⟨-1, by rw [if_pos h', if_pos (by omega)], by omega⟩
    · exact ⟨_, by rw [if_neg h', if_neg (by omega)], by omega⟩
theorem laws_toDesk.ev (a b : List Int) (ha : (a.length : Int) ≤ 1048576) (hb : (b.length : Int) ≤ 1048576) : Ev (fun k => laws_toDesk.f k a b) (a, b) := by
  unfold laws_toDesk.f
  exact Ev.bind (laws_toIntS.ev a (by omega)) (Ev.bind (laws_toIntS.ev b (by omega)) (Ev.val rfl))
theorem laws_eqDesk.same (a b : List Int) (ha : a.length ≤ 35184372088832) (hb : b.length ≤ 35184372088832) : Ev (fun k => laws_eqDesk.f k a b a b) true := by
  unfold laws_eqDesk.f
  exact Ev.bind (laws_eqIntS.ev a a ha) (Ev.pos (by simp) (Ev.bind (laws_eqIntS.ev b b hb) (Ev.pos (by simp) (Ev.val rfl))))
theorem spec_IsDesk.ev (a b : List Int) (ha : a.length ≤ 9223372036854775806) (hb : b.length ≤ 9223372036854775806) : Ev (fun k => spec_IsDesk.f k a b) (piGoodB a && ruGoodB b) := by
  unfold spec_IsDesk.f spec_coGood.f
  refine Ev.bind (a := piGoodB a && ruGoodB b) (Ev.bind (spec_piGood.ev a ha) ?_) (Ev.val rfl)
  refine Ev.ite (fun c => Ev.bind (spec_ruGood.ev b hb) (Ev.val (by rw [c]; rfl))) (fun c => Ev.val (by rw [Bool.not_eq_true] at c; rw [c]; rfl))
theorem impl_IsDesk.ev (a b : List Int) (ha : a.length ≤ 9223372036854775806) (hb : b.length ≤ 9223372036854775806) : Ev (fun k => impl_IsDesk.f k a b) (piGoodB a && ruGoodB b) := by
  unfold impl_IsDesk.f
  refine Ev.bind (impl_ArePieces.ev a ha) ?_
  refine Ev.ite (fun c => Ev.bind (impl_IsRuler.ev b hb) (Ev.val (by rw [c]; rfl))) (fun c => Ev.val (by rw [Bool.not_eq_true] at c; rw [c]; rfl))
theorem FnExactIsDesk : laws_FnExactIsDesk.Pure := by
  intro a b ha hb
  refine Ev.rounds (g := fun n => laws_FnExactIsDesk.f n a b) ?_
  unfold laws_FnExactIsDesk.f
  obtain ⟨r, h1, h2⟩ := laws_szDesk.val a b ha hb
  refine Ev.bindc h1 (Ev.ite (fun _ => Ev.val rfl) (fun c => ?_))
  obtain ⟨h3, h4⟩ := h2 c
  have h5 := laws_toDesk.ev a b h3 h4
  exact Ev.bind h5 (Ev.bind (spec_IsDesk.ev a b (by omega) (by omega)) (Ev.bind h5 (Ev.bind (impl_IsDesk.ev a b (by omega) (by omega)) (Ev.neg (by simp) (Ev.bind h5 (Ev.bind (laws_eqDesk.same a b (by omega) (by omega)) (Ev.pos rfl (Ev.val rfl))))))))
end Go.Proofs.Ytgjbclaodlhajaa.Pure
