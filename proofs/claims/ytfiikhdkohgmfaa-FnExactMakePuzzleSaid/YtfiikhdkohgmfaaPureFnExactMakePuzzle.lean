/- For all arguments within the row's reach the law FnExactMakePuzzle answers true.
No further conditions. -/
import Derived.Test.YtfiikhdkohgmfaaPFnExactMakePuzzlex0
import Derived.Test.YtfiikhdkohgmfaaPFnExactMakePuzzlex1
import Derived.Test.YtfiikhdkohgmfaaPFnExactMakePuzzlex2
import Derived.Test.YtfiikhdkohgmfaaPFnExactMakePuzzlex3
import Derived.Test.YtfiikhdkohgmfaaPFnExactMakePuzzlex4
import Derived.Test.YtfiikhdkohgmfaaPFnExactMakePuzzlex5
import Derived.Test.YtfiikhdkohgmfaaPFnExactMakePuzzlex6
import Derived.Test.YtfiikhdkohgmfaaPFnExactMakePuzzlex7
set_option linter.unusedVariables false
set_option linter.unusedSimpArgs false
namespace Go.Proofs.Ytfiikhdkohgmfaa.Pure
open Go.RowKit Go.Proofs.Ytfiikhdkohgmfaa.PFnExactMakePuzzle Go.Proofs.YtfiikhdkohgmfaaW.PrintWords Go.Proofs.YtfiikhdkohgmfaaW.PrintLast Go.Proofs.YtfiikhdkohgmfaaW.PrintMore
theorem Ev.pos {α : Type} {c : Prop} [Decidable c] {g f : Nat → Option α} {r : α} (hc : c) (h : Ev g r) : Ev (fun k => if c then g k else f k) r := by
  obtain ⟨K, h⟩ := h
  exact ⟨K, fun k hk => by show (if c then g k else f k) = _; rw [if_pos hc]; exact h k hk⟩
theorem Ev.neg {α : Type} {c : Prop} [Decidable c] {g f : Nat → Option α} {r : α} (hc : ¬ c) (h : Ev f r) : Ev (fun k => if c then g k else f k) r := by
  obtain ⟨K, h⟩ := h
  exact ⟨K, fun k hk => by show (if c then g k else f k) = _; rw [if_neg hc]; exact h k hk⟩
theorem Ev.val {α : Type} {a r : α} (h : a = r) : Ev (fun _ => some a) r := ⟨0, fun _ _ => by rw [h]⟩
theorem Ev.const {α : Type} {a : Option α} {r : α} (h : a = some r) : Ev (fun _ => a) r := ⟨0, fun _ _ => h⟩
theorem Ev.bindc {α β : Type} {a : Option α} {f : Nat → α → Option β} {x : α} {r : β} (h : a = some x) (k : Ev (fun n => f n x) r) : Ev (fun n => a.bind (f n)) r := by
  obtain ⟨K, k⟩ := k
  exact ⟨K, fun n hn => by show a.bind (f n) = _; rw [h]; exact k n hn⟩
theorem Ev.eq {α : Type} {g : Nat → Option α} {r r' : α} (h : Ev g r) (e : r = r') : Ev g r' := e ▸ h
def inB (a b c : Int) : Bool := decide (b ≤ a) && decide (a ≤ c)
theorem Ev.ite {α : Type} {c : Prop} [Decidable c] {g f : Nat → Option α} {r : α} (h : c → Ev g r) (h' : ¬ c → Ev f r) : Ev (fun k => if c then g k else f k) r := by
  by_cases hc : c
  · exact Ev.pos hc (h hc)
  · exact Ev.neg hc (h' hc)
theorem rd_eq (l : List Int) (i : Nat) (h : i < l.length) : rd l (i : Int) = l[i] := by simp [rd, List.getD_eq_getElem?_getD, List.getElem?_eq_getElem h]
theorem rd_app (p : List Int) (x : Int) (s : List Int) : rd (p ++ x :: s) (p.length : Int) = x := by simp [rd, List.getD_eq_getElem?_getD]
theorem w64 {n : Int} (h0 : -9223372036854775808 ≤ n) (h1 : n ≤ 9223372036854775807) : wrap64 n = n := by unfold wrap64; omega
theorem laws_toIntS.ev_l (l : List Int) (hl : l.length ≤ 35184372088832) (d : Nat) : ∀ (acc : List Int) (i : Nat), acc.length = l.length → i + d = l.length → (∀ j, j < i → acc[j]? = l[j]?) → Ev (fun k => laws_toIntS.l0 k l acc (i : Int)) l := by
  induction d with
  | zero =>
    intro acc i ha hi hj
    refine Ev.step (f := fun _ => some acc) (fun k => ?_) (Ev.val ?_)
    · rw [laws_toIntS.l0, if_neg (by omega)]
    · apply List.ext_getElem?
      intro j
      by_cases h : j < i
      · exact hj j h
      · rw [List.getElem?_eq_none (by omega), List.getElem?_eq_none (by omega)]
  | succ d ih =>
    intro acc i ha hi hj
    have hlt : i < l.length := by omega
    refine Ev.step (f := fun k => laws_toIntS.l0 k l (acc.set i l[i]) ((i + 1 : Nat) : Int)) (fun k => ?_) (ih (acc.set i l[i]) (i + 1) (by simp [ha]) (by omega) ?_)
    · rw [laws_toIntS.l0, if_pos (by omega), if_pos (by omega), if_pos (by omega), w64 (by omega) (by omega), rd_eq l i hlt]
      simp
    · intro j hj'
      by_cases e : j = i
      · subst e; rw [List.getElem?_set_self (by omega), List.getElem?_eq_getElem hlt]
      · rw [List.getElem?_set_ne (by omega)]; exact hj j (by omega)
theorem laws_toIntS.ev (l : List Int) (hl : l.length ≤ 35184372088832) : Ev (fun k => laws_toIntS.f k l) l := by
  have h := laws_toIntS.ev_l l hl l.length (List.replicate l.length 0) 0 (by simp) (by omega) (fun j hj => absurd hj (by omega))
  refine Ev.congr (fun k => ?_) h
  simp only [laws_toIntS.f]
  rw [if_pos (by omega), if_pos (by omega)]
  simp
theorem laws_eqIntS.ev_l (s t : List Int) (hl : s.length ≤ 35184372088832) : ∀ (p : List Int), p.length + s.length ≤ 35184372088832 → s.length = t.length → ∀ q : List Int, q.length = p.length → Ev (fun k => laws_eqIntS.l0 k (p ++ s) (q ++ t) (p.length : Int)) (decide (s = t)) := by
  induction s generalizing t with
  | nil =>
    intro p hp ht q hq
    obtain rfl : t = [] := List.eq_nil_of_length_eq_zero (by simpa using ht.symm)
    refine Ev.step (f := fun _ => some true) (fun k => ?_) (Ev.val (by simp))
    rw [laws_eqIntS.l0, if_neg (by simp)]
  | cons x s ih =>
    intro p hp ht q hq
    obtain _ | ⟨y, t⟩ := t
    · simp at ht
    simp only [List.length_cons] at ht hp hl
    have e1 : rd (p ++ x :: s) (p.length : Int) = x := rd_app p x s
    have e2 : rd (q ++ y :: t) (p.length : Int) = y := by rw [← hq]; exact rd_app q y t
    by_cases e : x = y
    · subst e
      have h := ih t (by omega) (p ++ [x]) (by simp <;> omega) (by omega) (q ++ [x]) (by simp [hq])
      refine Ev.step (f := fun k => laws_eqIntS.l0 k ((p ++ [x]) ++ s) ((q ++ [x]) ++ t) ((p ++ [x]).length : Int)) (fun k => ?_) (Ev.eq h (by simp))
      rw [laws_eqIntS.l0, if_pos (by simp <;> omega), if_pos (by omega), if_pos (by simp <;> omega), e1, e2, if_pos rfl, w64 (by omega) (by omega)]
      simp
    · refine Ev.step (f := fun _ => some false) (fun k => ?_) (Ev.val (by simp [e]))
      rw [laws_eqIntS.l0, if_pos (by simp <;> omega), if_pos (by omega), if_pos (by simp <;> omega), e1, e2, if_neg e]
theorem laws_eqIntS.ev (s t : List Int) (hl : s.length ≤ 35184372088832) : Ev (fun k => laws_eqIntS.f k s t) (decide (s = t)) := by
  unfold laws_eqIntS.f
  refine Ev.ite (fun h => ?_) (fun h => Ev.val ?_)
  · exact laws_eqIntS.ev_l s t hl [] (by simpa using hl) (by omega) [] rfl
  · have : s ≠ t := by rintro rfl; exact h rfl
    simp [this]
theorem spec_l1In.val (a b c : Int) : spec_l1In.f a b c = some (decide (b ≤ a) && decide (a ≤ c)) := by
  unfold spec_l1In.f
  by_cases h : a ≥ b
  · rw [if_pos h]; simp [show b ≤ a from h]
  · rw [if_neg h]; simp [show ¬ b ≤ a from h]
theorem spec_l1In.valB (a b c : Int) : spec_l1In.f a b c = some (inB a b c) := spec_l1In.val a b c
theorem impl_within.val (a b c : Int) : impl_within.f a b c = some (decide (b ≤ a) && decide (a ≤ c)) := by
  unfold impl_within.f
  by_cases h : b ≤ a
  · rw [if_pos h]; simp [h]
  · rw [if_neg h]; simp [h]
theorem impl_within.valB (a b c : Int) : impl_within.f a b c = some (inB a b c) := impl_within.val a b c
theorem spec_l1All.ev_l (a b : Int) (s : List Int) : ∀ (p : List Int), p.length + s.length ≤ 9223372036854775807 → Ev (fun k => spec_l1All.l0 k a b (p ++ s) ((p ++ s).length : Int) (p.length : Int)) (s.all fun x => decide (a ≤ x) && decide (x ≤ b)) := by
  induction s with
  | nil =>
    intro p hp
    refine Ev.step (f := fun _ => some true) (fun k => ?_) (Ev.val (by simp))
    rw [spec_l1All.l0, if_neg (by simp)]
  | cons x s ih =>
    intro p hp
    simp only [List.length_cons] at hp
    have h := ih (p ++ [x]) (by simp <;> omega)
    by_cases c : (decide (a ≤ x) && decide (x ≤ b)) = true
    · refine Ev.step (f := fun k => spec_l1All.l0 k a b ((p ++ [x]) ++ s) (((p ++ [x]) ++ s).length : Int) ((p ++ [x]).length : Int)) (fun k => ?_) (Ev.eq h (by simp only [List.all_cons]; rw [c]; rfl))
      rw [spec_l1All.l0, if_pos (by simp <;> omega), if_pos (by omega), if_pos (by simp <;> omega), rd_app, spec_l1In.val, Option.bind_some, if_pos c, w64 (by omega) (by omega)]
      simp
    · refine Ev.step (f := fun _ => some false) (fun k => ?_) (Ev.val (by simp only [List.all_cons]; rw [Bool.not_eq_true] at c; rw [c]; rfl))
      rw [spec_l1All.l0, if_pos (by simp <;> omega), if_pos (by omega), if_pos (by simp <;> omega), rd_app, spec_l1In.val, Option.bind_some, if_neg c]
theorem spec_l1All.ev (l : List Int) (a b : Int) (hl : l.length ≤ 9223372036854775807) : Ev (fun k => spec_l1All.f k l a b) (l.all fun x => decide (a ≤ x) && decide (x ≤ b)) :=
  spec_l1All.ev_l a b l [] (by simpa using hl)
/-- No element is less than the one before. -/
def sortedB : List Int → Bool
  | [] => true
  | [_] => true
  | x :: y :: s => decide (x ≤ y) && sortedB (y :: s)
theorem sortedB_iff (l : List Int) : sortedB l = true ↔ ∀ i : Nat, ∀ h : i + 1 < l.length, l[i] ≤ l[i + 1] := by
  induction l with
  | nil => simp [sortedB]
  | cons x s ih =>
    cases s with
    | nil => simp [sortedB]
    | cons y s =>
      simp only [sortedB, Bool.and_eq_true, decide_eq_true_eq, ih]
      constructor
      · rintro ⟨h1, h2⟩ i hi
        cases i with
        | zero => exact h1
        | succ i => exact h2 i (by simpa using hi)
      · intro h
        exact ⟨h 0 (by simp), fun i hi => h (i + 1) (by simpa using hi)⟩
theorem spec_piGood.ev_l (s : List Int) : ∀ (p : List Int) (x : Int), p.length + s.length + 1 ≤ 9223372036854775806 → Ev (fun k => spec_piGood.l0 k (p ++ x :: s) ((p.length + 1 : Nat) : Int)) (sortedB (x :: s)) := by
  induction s with
  | nil =>
    intro p x hp
    refine Ev.step (f := fun _ => some true) (fun k => ?_) (Ev.val (by simp [sortedB]))
    rw [spec_piGood.l0, if_neg (by simp)]
  | cons y s ih =>
    intro p x hp
    simp only [List.length_cons] at hp
    have e1 : rd (p ++ x :: y :: s) (p.length : Int) = x := rd_app p x _
    have e2 : rd (p ++ x :: y :: s) ((p.length + 1 : Nat) : Int) = y := by
      have := rd_app (p ++ [x]) y s
      simpa using this
    have hw : wrap64 (((p.length + 1 : Nat) : Int) - 1) = (p.length : Int) := by rw [w64 (by omega) (by omega)]; omega
    by_cases c : x ≤ y
    · have h := ih (p ++ [x]) y (by simp <;> omega)
      refine Ev.step (f := fun k => spec_piGood.l0 k ((p ++ [x]) ++ y :: s) (((p ++ [x]).length + 1 : Nat) : Int)) (fun k => ?_) (Ev.eq h (by simp [sortedB, c]))
      rw [spec_piGood.l0, if_pos (by simp <;> omega), hw, if_pos (by omega), if_pos (by simp <;> omega), if_pos (by omega), e1, e2, if_neg (by omega), w64 (by omega) (by omega)]
      simp
    · refine Ev.step (f := fun _ => some false) (fun k => ?_) (Ev.val (by simp [sortedB, c]))
      rw [spec_piGood.l0, if_pos (by simp <;> omega), hw, if_pos (by omega), if_pos (by simp <;> omega), if_pos (by omega), e1, e2, if_pos (by omega)]
def piGoodB (l : List Int) : Bool := decide (l.length ≤ 20) && (l.all fun x => decide (1 ≤ x) && decide (x ≤ 10000)) && sortedB l
theorem spec_piGood.ev (l : List Int) (hl : l.length ≤ 9223372036854775806) : Ev (fun k => spec_piGood.f k l) (piGoodB l) := by
  unfold spec_piGood.f
  refine Ev.ite (fun h => ?_) (fun h => ?_)
  · refine Ev.step (f := fun _ => some false) (fun k => ?_) (Ev.val ?_)
    · rw [spec_piGood.j0, if_pos rfl]
    · unfold piGoodB; rw [decide_eq_false (by omega)]; rfl
  · refine Ev.bind (spec_l1All.ev l 1 10000 (by omega)) ?_
    by_cases c : (l.all fun x => decide (1 ≤ x) && decide (x ≤ 10000)) = true
    · refine Ev.step (f := fun k => spec_piGood.l0 k l 1) (fun k => ?_) ?_
      · rw [spec_piGood.j0, c, if_neg (by decide)]
      · have e : piGoodB l = sortedB l := by unfold piGoodB; rw [c, decide_eq_true (by omega)]; rfl
        rw [e]
        cases l with
        | nil =>
          refine Ev.step (f := fun _ => some true) (fun k => ?_) (Ev.val (by simp [sortedB]))
          rw [spec_piGood.l0, if_neg (by simp)]
        | cons x s => exact spec_piGood.ev_l s [] x (by simp at hl ⊢; omega)
    · rw [Bool.not_eq_true] at c
      refine Ev.step (f := fun _ => some false) (fun k => ?_) (Ev.val ?_)
      · rw [spec_piGood.j0, c, if_pos (by decide)]
      · unfold piGoodB; rw [c]; simp
def hiddenB (l : List Int) : Bool := decide (l.length ≤ 4) && (l.all fun x => decide (1 ≤ x) && decide (x ≤ 6)) && sortedB l
theorem all_wider {l : List Int} {a b a' b' : Int} (h : (l.all fun x => decide (a ≤ x) && decide (x ≤ b)) = true) (ha : a' ≤ a) (hb : b ≤ b') : (l.all fun x => decide (a' ≤ x) && decide (x ≤ b')) = true := by
  rw [List.all_eq_true] at h ⊢
  intro x hx
  have := h x hx
  simp at this ⊢
  omega
theorem spec_pzHidden.ev (l : List Int) (hl : l.length ≤ 9223372036854775806) : Ev (fun k => spec_pzHidden.f k l) (hiddenB l) := by
  unfold spec_pzHidden.f
  refine Ev.ite (fun h => ?_) (fun h => ?_)
  · refine Ev.bind (spec_piGood.ev l hl) ?_
    refine Ev.ite (fun c => ?_) (fun c => Ev.val ?_)
    · refine Ev.bind (spec_l1All.ev l 1 6 (by omega)) (Ev.val ?_)
      unfold piGoodB at c
      simp only [Bool.and_eq_true] at c
      unfold hiddenB
      rw [decide_eq_true (by omega), c.2]; simp
    · unfold hiddenB
      rw [decide_eq_true (by omega)]
      cases e : (l.all fun x => decide (1 ≤ x) && decide (x ≤ 6)) with
      | false => simp
      | true =>
        have := all_wider e (a' := 1) (b' := 10000) (by omega) (by omega)
        unfold piGoodB at c
        rw [this, decide_eq_true (by omega)] at c
        simp at c
        simp [c]
  · refine Ev.val ?_
    unfold hiddenB
    rw [decide_eq_false (by omega)]; rfl
theorem impl_areWithin.val (l : List Int) (a b : Int) : impl_areWithin.f l a b = some (l.all fun x => decide (a ≤ x) && decide (x ≤ b)) := rfl
theorem cmp_Less_int.val (a b : Int) : cmp_Less_int.f a b = some (decide (a < b)) := by simp [cmp_Less_int.f, cmp_isNaN_int.f]
theorem slices_IsSorted_int_int.ev_l (l : List Int) (hl : l.length ≤ 9223372036854775806) (i : Nat) : i < l.length → Ev (fun k => slices_IsSorted_int_int.l0 k l (i : Int)) (sortedB (l.take (i + 1))) := by
  induction i with
  | zero =>
    intro hi
    refine Ev.step (f := fun _ => some true) (fun k => ?_) (Ev.val ?_)
    · rw [slices_IsSorted_int_int.l0, if_neg (by omega)]
    · cases l with
      | nil => rfl
      | cons x s => simp [sortedB]
  | succ i ih =>
    intro hi
    have h := ih (by omega)
    have hw : wrap64 (((i + 1 : Nat) : Int) - 1) = (i : Int) := by rw [w64 (by omega) (by omega)]; omega
    have key : sortedB (l.take (i + 1 + 1)) = (decide (l[i] ≤ l[i + 1]) && sortedB (l.take (i + 1))) := by
      rw [Bool.eq_iff_iff, Bool.and_eq_true, decide_eq_true_eq, sortedB_iff, sortedB_iff]
      constructor
      · intro h
        refine ⟨by have := h i (by simp <;> omega); simpa using this, fun j hj => ?_⟩
        have hj' : j + 1 < i + 1 := by simp at hj; omega
        have := h j (by simp <;> omega)
        simpa using this
      · rintro ⟨h1, h2⟩ j hj
        have hj' : j + 1 < i + 1 + 1 := by simp at hj; omega
        by_cases e : j = i
        · subst e; simpa using h1
        · have := h2 j (by simp <;> omega)
          simpa using this
    by_cases c : l[i + 1] < l[i]
    · refine Ev.step (f := fun _ => some false) (fun k => ?_) (Ev.val (by rw [key, decide_eq_false (by omega)]; rfl))
      rw [slices_IsSorted_int_int.l0, if_pos (by omega), if_pos (by omega), if_pos (by omega), hw, if_pos (by omega), if_pos (by omega), rd_eq l _ hi, rd_eq l i (by omega), cmp_Less_int.val, Option.bind_some, if_pos (by simpa using c)]
    · refine Ev.step (f := fun k => slices_IsSorted_int_int.l0 k l (i : Int)) (fun k => ?_) (Ev.eq h (by rw [key, decide_eq_true (by omega)]; rfl))
      rw [slices_IsSorted_int_int.l0, if_pos (by omega), if_pos (by omega), if_pos (by omega), hw, if_pos (by omega), if_pos (by omega), rd_eq l _ hi, rd_eq l i (by omega), cmp_Less_int.val, Option.bind_some, if_neg (by simpa using c)]
theorem slices_IsSorted_int_int.ev (l : List Int) (hl : l.length ≤ 9223372036854775806) : Ev (fun k => slices_IsSorted_int_int.f k l) (sortedB l) := by
  unfold slices_IsSorted_int_int.f
  cases l with
  | nil =>
    refine Ev.step (f := fun _ => some true) (fun k => ?_) (Ev.val (by simp [sortedB]))
    rw [slices_IsSorted_int_int.l0, if_neg (by rw [w64 (by simp) (by simp)]; simp)]
  | cons x s =>
    have h := slices_IsSorted_int_int.ev_l (x :: s) hl s.length (by simp)
    have hw : wrap64 ((((x :: s).length : Nat) : Int) - 1) = (s.length : Int) := by
      simp only [List.length_cons] at hl ⊢
      rw [w64 (by omega) (by omega)]; omega
    rw [hw]
    refine Ev.eq h ?_
    rw [List.take_of_length_le (by simp)]
theorem impl_IsHidden.ev (l : List Int) (hl : l.length ≤ 9223372036854775806) : Ev (fun k => impl_IsHidden.f k l) (hiddenB l) := by
  unfold impl_IsHidden.f
  refine Ev.ite (fun h => ?_) (fun h => ?_)
  · refine Ev.bindc (impl_areWithin.val l 1 6) ?_
    refine Ev.ite (fun c => ?_) (fun c => Ev.val ?_)
    · refine Ev.bind (slices_IsSorted_int_int.ev l hl) (Ev.val ?_)
      unfold hiddenB
      rw [decide_eq_true (by omega), c]; simp
    · unfold hiddenB
      rw [Bool.not_eq_true] at c
      rw [c]; simp
  · refine Ev.val ?_
    unfold hiddenB
    rw [decide_eq_false (by omega)]; rfl
theorem ite_and (t x : Bool) : (if t = true then some x else some false) = some (t && x) := by cases t <;> rfl
def clueB (k a b : Int) : Bool :=
  if k = 0 then inB a 0 4 && b == 0
  else if k = 1 then inB a 0 24 && b == 0
  else if k = 3 then inB a 0 24 && b == 0
  else if k = 2 then inB a 0 24 && inB b 0 1
  else if k = 4 then inB a 0 24 && inB b 0 16
  else if k = 5 then inB a 1 6 && inB b 0 4
  else false
theorem rd_TI_app (p : List S76) (x : S76) (s : List S76) : rd_T76 (p ++ x :: s) (p.length : Int) = x := by simp [rd_T76, List.getD_eq_getElem?_getD]
theorem laws_eqClueS.same_l (s : List S76) : ∀ (p : List S76), p.length + s.length ≤ 9223372036854775806 → Ev (fun k => laws_eqClueS.l0 k (p ++ s) (p ++ s) (p.length : Int)) true := by
  induction s with
  | nil =>
    intro p hp
    refine Ev.step (f := fun _ => some true) (fun k => ?_) (Ev.val rfl)
    rw [laws_eqClueS.l0, if_neg (by simp)]
  | cons x s ih =>
    intro p hp
    simp only [List.length_cons] at hp
    have h := ih (p ++ [x]) (by simp <;> omega)
    refine Ev.step (f := fun k => laws_eqClueS.l0 k ((p ++ [x]) ++ s) ((p ++ [x]) ++ s) ((p ++ [x]).length : Int)) (fun k => ?_) h
    rw [laws_eqClueS.l0, if_pos (by simp <;> omega), if_pos (by omega), if_pos (by simp <;> omega), rd_TI_app]
    simp only [laws_eqClue.f, if_true, Option.bind_some]
    rw [w64 (by omega) (by omega)]
    simp
theorem laws_eqPuzzle.same (l : List S76) (hl : l.length ≤ 9223372036854775806) : Ev (fun k => laws_eqPuzzle.f k l l) true := by
  unfold laws_eqPuzzle.f laws_eqClueS.f
  refine Ev.bind (Ev.pos rfl (laws_eqClueS.same_l l [] (by simpa using hl))) (Ev.pos rfl (Ev.val rfl))
/-- Each element is greater than the one before. -/
def risesB : List Int → Bool
  | [] => true
  | [_] => true
  | x :: y :: s => decide (x < y) && risesB (y :: s)
def ruGoodB (l : List Int) : Bool := decide (2 ≤ l.length) && ((l.all fun x => inB x 0 60) && risesB l) && rd l 0 == 0
theorem risesB_head {x : Int} {s : List Int} (h : risesB (x :: s) = true) : ∀ y ∈ s, x < y := by
  induction s generalizing x with
  | nil => simp
  | cons z s ih =>
    simp only [risesB, Bool.and_eq_true, decide_eq_true_eq] at h
    intro y hy
    rcases List.mem_cons.1 hy with rfl | hy
    · exact h.1
    · have := ih h.2 y hy; omega
theorem risesB_last {l : List Int} (h : risesB l = true) (hne : l ≠ []) : ∀ y ∈ l, y ≤ l.getLast hne := by
  induction l with
  | nil => exact absurd rfl hne
  | cons x s ih =>
    intro y hy
    cases s with
    | nil => simp at hy; simp [hy]
    | cons z s =>
      have h2 : risesB (z :: s) = true := by simp only [risesB, Bool.and_eq_true] at h; exact h.2
      rw [List.getLast_cons (by simp)]
      rcases List.mem_cons.1 hy with rfl | hy
      · have h1 := risesB_head h z (by simp)
        have := ih h2 (by simp) z (by simp)
        omega
      · exact ih h2 (by simp) y hy
theorem rd_last (x : Int) (s : List Int) : rd (x :: s) (s.length : Int) = (x :: s).getLast (by simp) := by
  rw [List.getLast_eq_getElem, rd_eq (x :: s) s.length (by simp)]
  simp
def markedC : List S76 → Int → List S76
  | [], _ => []
  | _ :: s, a => ⟨a, a + 1, a + 2⟩ :: markedC s (a + 3)
theorem markedC_length (s : List S76) (a : Int) : (markedC s a).length = s.length := by
  induction s generalizing a with
  | nil => rfl
  | cons x s ih => simp [markedC, ih]
theorem rd_TI_set (p : List S76) (x y : S76) (s : List S76) : (p ++ x :: s).set (p.length : Int).toNat y = p ++ y :: s := by
  rw [Int.toNat_natCast, List.set_append_right _ _ (Nat.le_refl _)]; simp
theorem laws_markClueS.ev_l (s : List S76) : ∀ (p : List S76) (a : Int), p.length + s.length ≤ 1000000000000000000 → 0 ≤ a → a + 3 * s.length ≤ 4000000000000000000 → Ev (fun k => laws_markClueS.l0 k (p ++ s) a (p.length : Int)) (a + 3 * s.length, p ++ markedC s a) := by
  induction s with
  | nil =>
    intro p a hp h0 h1
    refine Ev.step (f := fun _ => some (a, p ++ [])) (fun k => ?_) (Ev.val (by simp [markedC]))
    rw [laws_markClueS.l0, if_neg (by simp)]
  | cons x s ih =>
    intro p a hp h0 h1
    simp only [List.length_cons] at hp h1
    have h := ih (p ++ [⟨a, a + 1, a + 2⟩]) (a + 3) (by simp; omega) (by omega) (by omega)
    refine Ev.step (f := fun k => laws_markClueS.l0 k ((p ++ [⟨a, a + 1, a + 2⟩]) ++ s) (a + 3) ((p ++ [(⟨a, a + 1, a + 2⟩ : S76)]).length : Int)) (fun k => ?_) (Ev.eq h ?_)
    · rw [laws_markClueS.l0, if_pos (by simp <;> omega), if_pos (by omega)]
      simp only [rd_TI_app, rd_TI_set, Option.bind_some]
      rw [w64 (n := a + 1) (by omega) (by omega), w64 (n := a + 1 + 1) (by omega) (by omega), w64 (n := a + 1 + 1 + 1) (by omega) (by omega), w64 (by omega) (by omega)]
      rw [show a + 1 + 1 + 1 = a + 3 by omega, show a + 1 + 1 = a + 2 by omega]
      simp
    · simp [markedC]; omega
theorem laws_heldClueS.ev_l (s : List S76) : ∀ (p : List S76) (a : Int), p.length + s.length ≤ 1000000000000000000 → 0 ≤ a → a + 3 * s.length ≤ 4000000000000000000 → Ev (fun k => laws_heldClueS.l0 k (p ++ markedC s a) a (p.length : Int)) (a + 3 * s.length) := by
  induction s with
  | nil =>
    intro p a hp h0 h1
    refine Ev.step (f := fun _ => some a) (fun k => ?_) (Ev.val (by simp))
    rw [laws_heldClueS.l0, if_neg (by simp [markedC])]
  | cons x s ih =>
    intro p a hp h0 h1
    simp only [List.length_cons] at hp h1
    have h := ih (p ++ [⟨a, a + 1, a + 2⟩]) (a + 3) (by simp; omega) (by omega) (by omega)
    refine Ev.step (f := fun k => laws_heldClueS.l0 k ((p ++ [⟨a, a + 1, a + 2⟩]) ++ markedC s (a + 3)) (a + 3) ((p ++ [(⟨a, a + 1, a + 2⟩ : S76)]).length : Int)) (fun k => ?_) (Ev.eq h ?_)
    · simp only [markedC]
      rw [laws_heldClueS.l0, if_pos (by simp <;> omega), if_pos (by omega)]
      simp only [rd_TI_app]
      rw [w64 (n := a + 1) (by omega) (by omega), w64 (n := a + 1 + 1) (by omega) (by omega), w64 (n := a + 1 + 1 + 1) (by omega) (by omega), w64 (by omega) (by omega)]
      rw [if_pos trivial, if_pos (show a + 2 = a + 1 + 1 by omega), show a + 1 + 1 + 1 = a + 3 by omega]
      simp
    · simp; omega
theorem laws_puzzle.mark (l : List S76) (hl : l.length ≤ 1000000000000000000) : Ev (fun k => laws_markPuzzle.f k l 1) ((1 + 3 * l.length : Int), markedC l 1) := by
  unfold laws_markPuzzle.f laws_markClueS.f
  exact Ev.bind (laws_markClueS.ev_l l [] 1 (by simpa using hl) (by omega) (by omega)) (Ev.val rfl)
theorem laws_puzzle.held (l : List S76) (hl : l.length ≤ 1000000000000000000) : Ev (fun k => laws_heldPuzzle.f k (markedC l 1) 1) (1 + 3 * l.length : Int) := by
  unfold laws_heldPuzzle.f laws_heldClueS.f
  exact Ev.bind (laws_heldClueS.ev_l l [] 1 (by simpa using hl) (by omega) (by omega)) (Ev.neg (by omega) (Ev.val rfl))
def numsFrom : Nat → Int → List Int
  | 0, _ => []
  | n + 1, m => m :: numsFrom n (m + 1)
theorem rd_set (p : List Int) (x y : Int) (s : List Int) : (p ++ x :: s).set (p.length : Int).toNat y = p ++ y :: s := by
  rw [Int.toNat_natCast, List.set_append_right _ _ (Nat.le_refl _)]; simp
theorem laws_markIntS.ev_l (s : List Int) : ∀ (p : List Int) (a : Int), p.length + s.length ≤ 1000000000000000000 → 0 ≤ a → a + s.length ≤ 4000000000000000000 → Ev (fun k => laws_markIntS.l0 k (p ++ s) a (p.length : Int)) (a + s.length, p ++ numsFrom s.length a) := by
  induction s with
  | nil =>
    intro p a hp h0 h1
    refine Ev.step (f := fun _ => some (a, p ++ [])) (fun k => ?_) (Ev.val (by simp [numsFrom]))
    rw [laws_markIntS.l0, if_neg (by simp)]
  | cons x s ih =>
    intro p a hp h0 h1
    simp only [List.length_cons] at hp h1
    have h := ih (p ++ [a]) (a + 1) (by simp; omega) (by omega) (by omega)
    refine Ev.step (f := fun k => laws_markIntS.l0 k ((p ++ [a]) ++ s) (a + 1) ((p ++ [a]).length : Int)) (fun k => ?_) (Ev.eq h ?_)
    · rw [laws_markIntS.l0, if_pos (by simp <;> omega), if_pos (by omega), rd_set, w64 (n := a + 1) (by omega) (by omega), w64 (by omega) (by omega)]
      simp
    · simp [numsFrom]; omega
theorem laws_markIntS.ev (l : List Int) (hl : l.length ≤ 1000000000000000000) : Ev (fun k => laws_markIntS.f k l 1) ((1 + l.length : Int), numsFrom l.length 1) := by
  unfold laws_markIntS.f
  exact laws_markIntS.ev_l l [] 1 (by simpa using hl) (by omega) (by omega)
/-- A table of N values. -/
def tab (N : Nat) (f : Int → Int) : List Int := (List.range N).map fun (i : Nat) => f (i : Int)
theorem tab_length (N : Nat) (f : Int → Int) : (tab N f).length = N := by simp [tab]
theorem rd_tab (N : Nat) (f : Int → Int) (i : Int) (h0 : 0 ≤ i) (h1 : i < N) : rd (tab N f) i = f i := by
  obtain ⟨n, rfl⟩ := Int.eq_ofNat_of_zero_le h0
  rw [rd_eq _ _ (by rw [tab_length]; omega)]
  simp [tab]
theorem tab_congr (N : Nat) (f g : Int → Int) (h : ∀ i : Int, 0 ≤ i → i < N → f i = g i) : tab N f = tab N g := by
  unfold tab
  apply List.map_congr_left
  intro i hi
  exact h i (by omega) (by have := List.mem_range.1 hi; omega)
theorem tab_set (N : Nat) (f : Int → Int) (i : Int) (v : Int) (h0 : 0 ≤ i) : (tab N f).set i.toNat v = tab N (fun j => if j = i then v else f j) := by
  obtain ⟨n, rfl⟩ := Int.eq_ofNat_of_zero_le h0
  apply List.ext_getElem?
  intro j
  unfold tab
  by_cases hj : j < N
  · by_cases e : n = j
    · subst e
      simp [hj]
    · rw [List.getElem?_set_ne (by simpa using e)]
      simp [hj]
      omega
  · rw [List.getElem?_eq_none (by simp; omega), List.getElem?_eq_none (by simp; omega)]
/-- How many ways there are to make s of some of the pieces. -/
def cnt : List Int → Int → Int
  | [], s => if s = 0 then 1 else 0
  | x :: t, s => cnt t s + cnt t (s - x)
theorem cnt_snoc (l : List Int) (n s : Int) : cnt (l ++ [n]) s = cnt l s + cnt l (s - n) := by
  induction l generalizing s with
  | nil => simp [cnt]
  | cons x t ih =>
    simp only [List.cons_append, cnt, ih]
    rw [show s - x - n = s - n - x by omega]; omega
theorem cnt_nonneg (l : List Int) (s : Int) : 0 ≤ cnt l s := by
  induction l generalizing s with
  | nil => unfold cnt; split <;> omega
  | cons x t ih => have h1 := ih s; have h2 := ih (s - x); unfold cnt; omega
theorem cnt_le (l : List Int) (s : Int) : cnt l s ≤ 2 ^ l.length := by
  induction l generalizing s with
  | nil => unfold cnt; split <;> simp
  | cons x t ih =>
    have h1 := ih s; have h2 := ih (s - x)
    unfold cnt
    rw [List.length_cons, Int.pow_succ]; omega
theorem cnt_neg (l : List Int) (hl : ∀ x ∈ l, 0 ≤ x) (s : Int) (h : s < 0) : cnt l s = 0 := by
  induction l generalizing s with
  | nil => unfold cnt; rw [if_neg (by omega)]
  | cons x t ih =>
    have hx := hl x (by simp)
    unfold cnt
    rw [ih (fun y hy => hl y (by simp [hy])) s h, ih (fun y hy => hl y (by simp [hy])) (s - x) (by omega)]; rfl
theorem sum_nonneg (l : List Int) (hl : ∀ x ∈ l, 0 ≤ x) : 0 ≤ l.sum := by
  induction l with
  | nil => simp
  | cons x t ih =>
    have hx := hl x (by simp)
    have := ih (fun y hy => hl y (by simp [hy]))
    rw [List.sum_cons]; omega
theorem cnt_above (l : List Int) (hl : ∀ x ∈ l, 0 ≤ x) (s : Int) (h : l.sum < s) : cnt l s = 0 := by
  induction l generalizing s with
  | nil => unfold cnt; rw [if_neg (by simp at h; omega)]
  | cons x t ih =>
    have hx := hl x (by simp)
    rw [List.sum_cons] at h
    unfold cnt
    rw [ih (fun y hy => hl y (by simp [hy])) s (by omega), ih (fun y hy => hl y (by simp [hy])) (s - x) (by omega)]; rfl
theorem pow_le_20 {n : Nat} (h : n ≤ 20) : (2 : Int) ^ n ≤ 1048576 := by
  have : (2 : Nat) ^ n ≤ 2 ^ 20 := Nat.pow_le_pow_right (by omega) h
  have e : ((2 : Int) ^ n) = ((2 ^ n : Nat) : Int) := by simp
  rw [e]; omega
theorem sum_le (l : List Int) (B : Int) (hl : ∀ x ∈ l, x ≤ B) : l.sum ≤ l.length * B := by
  induction l with
  | nil => simp
  | cons x t ih =>
    have hx := hl x (by simp)
    have := ih (fun y hy => hl y (by simp [hy]))
    rw [List.sum_cons, List.length_cons]
    have e : ((t.length + 1 : Nat) : Int) * B = t.length * B + B := by
      rw [show ((t.length + 1 : Nat) : Int) = (t.length : Int) + 1 by omega, Int.add_mul]; omega
    omega
/-- Up to where all sums can be made of pieces in order. -/
def runL : List Int → Int → Int
  | [], a => a
  | x :: t, a => if x > a + 1 then a else runL t (a + x)
theorem impl_total.ev_l (s : List Int) : ∀ (p : List Int) (a : Int), p.length + s.length ≤ 1000000000 → 0 ≤ a → (∀ x ∈ s, 0 ≤ x) → a + s.sum ≤ 1000000000 → Ev (fun k => impl_total.l0 k a (p ++ s) ((p ++ s).length : Int) (p.length : Int)) (a + s.sum) := by
  induction s with
  | nil =>
    intro p a hp h0 hs hsum
    refine Ev.step (f := fun _ => some a) (fun k => ?_) (Ev.val (by simp))
    rw [impl_total.l0, if_neg (by simp)]
  | cons x s ih =>
    intro p a hp h0 hs hsum
    simp only [List.length_cons] at hp
    rw [List.sum_cons] at hsum
    have hx := hs x (by simp)
    have hs' : ∀ y ∈ s, 0 ≤ y := fun y hy => hs y (by simp [hy])
    have hsn := sum_nonneg s hs'
    have h := ih (p ++ [x]) (a + x) (by simp <;> omega) (by omega) hs' (by omega)
    refine Ev.step (f := fun k => impl_total.l0 k (a + x) ((p ++ [x]) ++ s) (((p ++ [x]) ++ s).length : Int) ((p ++ [x]).length : Int)) (fun k => ?_) (Ev.eq h (by rw [List.sum_cons]; omega))
    rw [impl_total.l0, if_pos (by simp <;> omega), if_pos (by omega), if_pos (by simp <;> omega), rd_app, w64 (n := a + x) (by omega) (by omega), w64 (by omega) (by omega)]
    simp
theorem impl_total.ev (l : List Int) (hl : l.length ≤ 1000000000) (h0 : ∀ x ∈ l, 0 ≤ x) (hs : l.sum ≤ 1000000000) : Ev (fun k => impl_total.f k l) l.sum := by
  have h := impl_total.ev_l l [] 0 (by simpa using hl) (by omega) h0 (by omega)
  exact Ev.eq h (by omega)
theorem spec_piSum.ev_l (s : List Int) : ∀ (p : List Int) (a : Int), p.length + s.length ≤ 1000000000 → 0 ≤ a → (∀ x ∈ s, 0 ≤ x) → a + s.sum ≤ 1000000000 → Ev (fun k => spec_piSum.l0 k a (p ++ s) ((p ++ s).length : Int) (p.length : Int)) (a + s.sum) := by
  induction s with
  | nil =>
    intro p a hp h0 hs hsum
    refine Ev.step (f := fun _ => some a) (fun k => ?_) (Ev.val (by simp))
    rw [spec_piSum.l0, if_neg (by simp)]
  | cons x s ih =>
    intro p a hp h0 hs hsum
    simp only [List.length_cons] at hp
    rw [List.sum_cons] at hsum
    have hx := hs x (by simp)
    have hs' : ∀ y ∈ s, 0 ≤ y := fun y hy => hs y (by simp [hy])
    have hsn := sum_nonneg s hs'
    have h := ih (p ++ [x]) (a + x) (by simp <;> omega) (by omega) hs' (by omega)
    refine Ev.step (f := fun k => spec_piSum.l0 k (a + x) ((p ++ [x]) ++ s) (((p ++ [x]) ++ s).length : Int) ((p ++ [x]).length : Int)) (fun k => ?_) (Ev.eq h (by rw [List.sum_cons]; omega))
    rw [spec_piSum.l0, if_pos (by simp <;> omega), if_pos (by omega), if_pos (by simp <;> omega), rd_app, w64 (n := a + x) (by omega) (by omega), w64 (by omega) (by omega)]
    simp
theorem spec_piSum.ev (l : List Int) (hl : l.length ≤ 1000000000) (h0 : ∀ x ∈ l, 0 ≤ x) (hs : l.sum ≤ 1000000000) : Ev (fun k => spec_piSum.f k l) l.sum := by
  have h := spec_piSum.ev_l l [] 0 (by simpa using hl) (by omega) h0 (by omega)
  exact Ev.eq h (by omega)
theorem impl_run.ev_l (s : List Int) : ∀ (p : List Int) (a : Int), p.length + s.length ≤ 1000000000 → 0 ≤ a → (∀ x ∈ s, 0 ≤ x) → a + s.sum ≤ 1000000000 → Ev (fun k => impl_run.l0 k a (p ++ s) ((p ++ s).length : Int) (p.length : Int)) (runL s a) := by
  induction s with
  | nil =>
    intro p a hp h0 hs hsum
    refine Ev.step (f := fun _ => some a) (fun k => ?_) (Ev.val (by simp [runL]))
    rw [impl_run.l0, if_neg (by simp)]
  | cons x s ih =>
    intro p a hp h0 hs hsum
    simp only [List.length_cons] at hp
    rw [List.sum_cons] at hsum
    have hx := hs x (by simp)
    have hs' : ∀ y ∈ s, 0 ≤ y := fun y hy => hs y (by simp [hy])
    have hsn := sum_nonneg s hs'
    have h := ih (p ++ [x]) (a + x) (by simp <;> omega) (by omega) hs' (by omega)
    by_cases c : x > a + 1
    · refine Ev.step (f := fun _ => some a) (fun k => ?_) (Ev.val (by rw [runL, if_pos c]))
      rw [impl_run.l0, if_pos (by simp <;> omega), if_pos (by omega), if_pos (by simp <;> omega), rd_app, w64 (n := a + 1) (by omega) (by omega), if_pos c]
    · refine Ev.step (f := fun k => impl_run.l0 k (a + x) ((p ++ [x]) ++ s) (((p ++ [x]) ++ s).length : Int) ((p ++ [x]).length : Int)) (fun k => ?_) (Ev.eq h (by rw [runL, if_neg c]))
      rw [impl_run.l0, if_pos (by simp <;> omega), if_pos (by omega), if_pos (by simp <;> omega), rd_app, w64 (n := a + 1) (by omega) (by omega), if_neg c, w64 (n := a + x) (by omega) (by omega), w64 (by omega) (by omega)]
      simp
theorem impl_run.ev (l : List Int) (hl : l.length ≤ 1000000000) (h0 : ∀ x ∈ l, 0 ≤ x) (hs : l.sum ≤ 1000000000) : Ev (fun k => impl_run.f k l) (runL l 0) := by
  exact impl_run.ev_l l [] 0 (by simpa using hl) (by omega) h0 (by omega)
theorem spec_piRun.ev_l (s : List Int) : ∀ (p : List Int) (a : Int), p.length + s.length ≤ 1000000000 → 0 ≤ a → (∀ x ∈ s, 0 ≤ x) → a + s.sum ≤ 1000000000 → Ev (fun k => spec_piRun.l0 k a (p ++ s) ((p ++ s).length : Int) (p.length : Int)) (runL s a) := by
  induction s with
  | nil =>
    intro p a hp h0 hs hsum
    refine Ev.step (f := fun _ => some a) (fun k => ?_) (Ev.val (by simp [runL]))
    rw [spec_piRun.l0, if_neg (by simp)]
  | cons x s ih =>
    intro p a hp h0 hs hsum
    simp only [List.length_cons] at hp
    rw [List.sum_cons] at hsum
    have hx := hs x (by simp)
    have hs' : ∀ y ∈ s, 0 ≤ y := fun y hy => hs y (by simp [hy])
    have hsn := sum_nonneg s hs'
    have h := ih (p ++ [x]) (a + x) (by simp <;> omega) (by omega) hs' (by omega)
    by_cases c : x > a + 1
    · refine Ev.step (f := fun _ => some a) (fun k => ?_) (Ev.val (by rw [runL, if_pos c]))
      rw [spec_piRun.l0, if_pos (by simp <;> omega), if_pos (by omega), if_pos (by simp <;> omega), rd_app, w64 (n := a + 1) (by omega) (by omega), if_pos c]
    · refine Ev.step (f := fun k => spec_piRun.l0 k (a + x) ((p ++ [x]) ++ s) (((p ++ [x]) ++ s).length : Int) ((p ++ [x]).length : Int)) (fun k => ?_) (Ev.eq h (by rw [runL, if_neg c]))
      rw [spec_piRun.l0, if_pos (by simp <;> omega), if_pos (by omega), if_pos (by simp <;> omega), rd_app, w64 (n := a + 1) (by omega) (by omega), if_neg c, w64 (n := a + x) (by omega) (by omega), w64 (by omega) (by omega)]
      simp
theorem spec_piRun.ev (l : List Int) (hl : l.length ≤ 1000000000) (h0 : ∀ x ∈ l, 0 ≤ x) (hs : l.sum ≤ 1000000000) : Ev (fun k => spec_piRun.f k l) (runL l 0) := by
  exact spec_piRun.ev_l l [] 0 (by simpa using hl) (by omega) h0 (by omega)
theorem impl_ways.ev_in {R : List Int} (N : Nat) (hN : N ≤ 1000000001) (p : Int) (hp : 1 ≤ p) (f : Int → Int) (hf : ∀ j, 0 ≤ f j ∧ f j ≤ 2000000000) (L : List Int) (n i : Int) (next : Ev (fun k => impl_ways.l0 k (tab N fun j => if p ≤ j then f j + f (j - p) else f j) L n (wrap64 (i + 1))) R) :
    ∀ (d : Nat) (s : Int), s < N → -1 ≤ s → s + 1 = d → Ev (fun k => impl_ways.l1 k (tab N fun j => if p ≤ j ∧ s < j then f j + f (j - p) else f j) p s L n i) R := by
  intro d
  induction d with
  | zero =>
    intro s h1 h2 h3
    refine Ev.step (fun k => ?_) next
    rw [impl_ways.l1, if_neg (by omega)]
    congr 1
    apply tab_congr
    intro j hj0 hj1
    by_cases c : p ≤ j
    · rw [if_pos ⟨c, by omega⟩, if_pos c]
    · rw [if_neg (by omega), if_neg c]
  | succ d ih =>
    intro s h1 h2 h3
    by_cases c : s ≥ p
    · have h := ih (s - 1) (by omega) (by omega) (by omega)
      refine Ev.step (fun k => ?_) h
      rw [impl_ways.l1, if_pos c, if_pos (by omega), if_pos (by rw [tab_length]; omega), w64 (n := s - p) (by omega) (by omega), if_pos (by omega), if_pos (by rw [tab_length]; omega), rd_tab _ _ _ (by omega) (by omega), rd_tab _ _ _ (by omega) (by omega)]
      have f1 := hf s
      have f2 := hf (s - p)
      rw [if_neg (by omega), if_neg (by omega), w64 (by omega) (by omega), w64 (n := s - 1) (by omega) (by omega), tab_set _ _ _ _ (by omega)]
      congr 1
      apply tab_congr
      intro j hj0 hj1
      by_cases e : j = s
      · subst e; rw [if_pos rfl, if_pos ⟨by omega, by omega⟩]
      · rw [if_neg e]
        by_cases e2 : p ≤ j ∧ s < j
        · rw [if_pos e2, if_pos ⟨by omega, by omega⟩]
        · rw [if_neg e2, if_neg (by omega)]
    · refine Ev.step (fun k => ?_) next
      rw [impl_ways.l1, if_neg c]
      congr 1
      apply tab_congr
      intro j hj0 hj1
      by_cases c : p ≤ j
      · rw [if_pos ⟨c, by omega⟩, if_pos c]
      · rw [if_neg (by omega), if_neg c]
theorem impl_ways.ev_l (N : Nat) (hN : N ≤ 1000000001) (s : List Int) : ∀ (q : List Int), q.length + s.length ≤ 20 → (∀ x ∈ s, 1 ≤ x) → (∀ x ∈ q, 1 ≤ x) → Ev (fun k => impl_ways.l0 k (tab N (cnt q)) (q ++ s) ((q ++ s).length : Int) (q.length : Int)) (tab N (cnt (q ++ s))) := by
  induction s with
  | nil =>
    intro q hq hs hq1
    refine Ev.step (f := fun _ => some (tab N (cnt q))) (fun k => ?_) (Ev.val (by simp))
    rw [impl_ways.l0, if_neg (by simp)]
  | cons x s ih =>
    intro q hq hs hq1
    simp only [List.length_cons] at hq
    have h := ih (q ++ [x]) (by simp <;> omega) (fun y hy => hs y (by simp [hy])) (fun y hy => (List.mem_append.1 hy).elim (hq1 y) (fun h => by simp at h; rw [h]; exact hs x (by simp)))
    have hx := hs x (by simp)
    have hcn : ∀ j, cnt q j ≤ 1048576 := fun j => Int.le_trans (cnt_le q j) (pow_le_20 (by omega))
    have e : (tab N fun j => if x ≤ j then cnt q j + cnt q (j - x) else cnt q j) = tab N (cnt (q ++ [x])) := by
      apply tab_congr
      intro j hj0 hj1
      rw [cnt_snoc]
      by_cases c : x ≤ j
      · rw [if_pos c]
      · rw [if_neg c, cnt_neg q (fun y hy => by have := hq1 y hy; omega) (j - x) (by omega)]; omega
    have hin := impl_ways.ev_in (R := tab N (cnt (q ++ x :: s))) N hN x hx (cnt q) (fun j => ⟨cnt_nonneg q j, by have := hcn j; omega⟩) (q ++ x :: s) ((q ++ x :: s).length : Int) (q.length : Int) (by
      rw [e, w64 (by omega) (by omega)]
      have := h
      simpa using this) N ((N : Int) - 1) (by omega) (by omega) (by omega)
    refine Ev.step (fun k => ?_) hin
    rw [impl_ways.l0, if_pos (by simp <;> omega), if_pos (by omega), if_pos (by simp <;> omega), rd_app, tab_length, w64 (n := (N : Int) - 1) (by omega) (by omega)]
    congr 1
    apply tab_congr
    intro j hj0 hj1
    rw [if_neg (by omega)]
theorem impl_ways.ev (l : List Int) (hl : l.length ≤ 20) (h1 : ∀ x ∈ l, 1 ≤ x) (hs : l.sum ≤ 1000000000) : Ev (fun k => impl_ways.f k l) (tab (l.sum.toNat + 1) (cnt l)) := by
  have h0 : ∀ x ∈ l, 0 ≤ x := fun x hx => by have := h1 x hx; omega
  have hn := sum_nonneg l h0
  unfold impl_ways.f
  refine Ev.bind (impl_total.ev l (by omega) h0 hs) ?_
  rw [w64 (by omega) (by omega)]
  refine Ev.pos (by omega) (Ev.pos (by omega) ?_)
  simp only [Option.bind_some]
  refine Ev.pos (by simp <;> omega) ?_
  have h := impl_ways.ev_l (l.sum.toNat + 1) (by omega) l [] (by simpa using hl) h1 (by simp)
  refine Ev.congr (fun k => ?_) h
  congr 1
  have e : List.replicate (l.sum + 1).toNat (0 : Int) = tab (l.sum.toNat + 1) (fun _ => 0) := by
    rw [show (l.sum + 1).toNat = l.sum.toNat + 1 by omega]
    apply List.ext_getElem
    · simp [tab]
    · intro i h1 h2; simp [tab]
  rw [e, tab_set _ _ _ _ (by omega)]
  apply tab_congr
  intro j hj0 hj1
  simp [cnt]
theorem spec_piWays.ev_in {R : List Int} (N : Nat) (hN : N ≤ 1000000001) (p : Int) (hp : 1 ≤ p) (f : Int → Int) (hf : ∀ j, 0 ≤ f j ∧ f j ≤ 2000000000) (L : List Int) (n i : Int) (next : Ev (fun k => spec_piWays.l0 k (tab N fun j => if p ≤ j then f j + f (j - p) else f j) L n (wrap64 (i + 1))) R) :
    ∀ (d : Nat) (s : Int), s < N → -1 ≤ s → s + 1 = d → Ev (fun k => spec_piWays.l1 k (tab N fun j => if p ≤ j ∧ s < j then f j + f (j - p) else f j) p s L n i) R := by
  intro d
  induction d with
  | zero =>
    intro s h1 h2 h3
    refine Ev.step (fun k => ?_) next
    rw [spec_piWays.l1, if_neg (by omega)]
    congr 1
    apply tab_congr
    intro j hj0 hj1
    by_cases c : p ≤ j
    · rw [if_pos ⟨c, by omega⟩, if_pos c]
    · rw [if_neg (by omega), if_neg c]
  | succ d ih =>
    intro s h1 h2 h3
    by_cases c : s ≥ p
    · have h := ih (s - 1) (by omega) (by omega) (by omega)
      refine Ev.step (fun k => ?_) h
      rw [spec_piWays.l1, if_pos c, if_pos (by omega), if_pos (by rw [tab_length]; omega), w64 (n := s - p) (by omega) (by omega), if_pos (by omega), if_pos (by rw [tab_length]; omega), rd_tab _ _ _ (by omega) (by omega), rd_tab _ _ _ (by omega) (by omega)]
      have f1 := hf s
      have f2 := hf (s - p)
      rw [if_neg (by omega), if_neg (by omega), w64 (by omega) (by omega), w64 (n := s - 1) (by omega) (by omega), tab_set _ _ _ _ (by omega)]
      congr 1
      apply tab_congr
      intro j hj0 hj1
      by_cases e : j = s
      · subst e; rw [if_pos rfl, if_pos ⟨by omega, by omega⟩]
      · rw [if_neg e]
        by_cases e2 : p ≤ j ∧ s < j
        · rw [if_pos e2, if_pos ⟨by omega, by omega⟩]
        · rw [if_neg e2, if_neg (by omega)]
    · refine Ev.step (fun k => ?_) next
      rw [spec_piWays.l1, if_neg c]
      congr 1
      apply tab_congr
      intro j hj0 hj1
      by_cases c : p ≤ j
      · rw [if_pos ⟨c, by omega⟩, if_pos c]
      · rw [if_neg (by omega), if_neg c]
theorem spec_piWays.ev_l (N : Nat) (hN : N ≤ 1000000001) (s : List Int) : ∀ (q : List Int), q.length + s.length ≤ 20 → (∀ x ∈ s, 1 ≤ x) → (∀ x ∈ q, 1 ≤ x) → Ev (fun k => spec_piWays.l0 k (tab N (cnt q)) (q ++ s) ((q ++ s).length : Int) (q.length : Int)) (tab N (cnt (q ++ s))) := by
  induction s with
  | nil =>
    intro q hq hs hq1
    refine Ev.step (f := fun _ => some (tab N (cnt q))) (fun k => ?_) (Ev.val (by simp))
    rw [spec_piWays.l0, if_neg (by simp)]
  | cons x s ih =>
    intro q hq hs hq1
    simp only [List.length_cons] at hq
    have h := ih (q ++ [x]) (by simp <;> omega) (fun y hy => hs y (by simp [hy])) (fun y hy => (List.mem_append.1 hy).elim (hq1 y) (fun h => by simp at h; rw [h]; exact hs x (by simp)))
    have hx := hs x (by simp)
    have hcn : ∀ j, cnt q j ≤ 1048576 := fun j => Int.le_trans (cnt_le q j) (pow_le_20 (by omega))
    have e : (tab N fun j => if x ≤ j then cnt q j + cnt q (j - x) else cnt q j) = tab N (cnt (q ++ [x])) := by
      apply tab_congr
      intro j hj0 hj1
      rw [cnt_snoc]
      by_cases c : x ≤ j
      · rw [if_pos c]
      · rw [if_neg c, cnt_neg q (fun y hy => by have := hq1 y hy; omega) (j - x) (by omega)]; omega
    have hin := spec_piWays.ev_in (R := tab N (cnt (q ++ x :: s))) N hN x hx (cnt q) (fun j => ⟨cnt_nonneg q j, by have := hcn j; omega⟩) (q ++ x :: s) ((q ++ x :: s).length : Int) (q.length : Int) (by
      rw [e, w64 (by omega) (by omega)]
      have := h
      simpa using this) N ((N : Int) - 1) (by omega) (by omega) (by omega)
    refine Ev.step (fun k => ?_) hin
    rw [spec_piWays.l0, if_pos (by simp <;> omega), if_pos (by omega), if_pos (by simp <;> omega), rd_app, tab_length, w64 (n := (N : Int) - 1) (by omega) (by omega)]
    congr 1
    apply tab_congr
    intro j hj0 hj1
    rw [if_neg (by omega)]
theorem spec_piWays.ev (l : List Int) (hl : l.length ≤ 20) (h1 : ∀ x ∈ l, 1 ≤ x) (hs : l.sum ≤ 1000000000) : Ev (fun k => spec_piWays.f k l) (tab (l.sum.toNat + 1) (cnt l)) := by
  have h0 : ∀ x ∈ l, 0 ≤ x := fun x hx => by have := h1 x hx; omega
  have hn := sum_nonneg l h0
  unfold spec_piWays.f
  refine Ev.bind (spec_piSum.ev l (by omega) h0 hs) ?_
  rw [w64 (by omega) (by omega)]
  refine Ev.pos (by omega) (Ev.pos (by omega) ?_)
  simp only [Option.bind_some]
  refine Ev.pos (by simp <;> omega) ?_
  have h := spec_piWays.ev_l (l.sum.toNat + 1) (by omega) l [] (by simpa using hl) h1 (by simp)
  refine Ev.congr (fun k => ?_) h
  congr 1
  have e : List.replicate (l.sum + 1).toNat (0 : Int) = tab (l.sum.toNat + 1) (fun _ => 0) := by
    rw [show (l.sum + 1).toNat = l.sum.toNat + 1 by omega]
    apply List.ext_getElem
    · simp [tab]
    · intro i h1 h2; simp [tab]
  rw [e, tab_set _ _ _ _ (by omega)]
  apply tab_congr
  intro j hj0 hj1
  simp [cnt]
theorem spec_piMake.ev (l : List Int) (a : Int) (hl : l.length ≤ 20) (h1 : ∀ x ∈ l, 1 ≤ x) (hs : l.sum ≤ 1000000000) (ha : 0 ≤ a) : Ev (fun k => spec_piMake.f k l a) (cnt l a) := by
  have h0 : ∀ x ∈ l, 0 ≤ x := fun x hx => by have := h1 x hx; omega
  have hn := sum_nonneg l h0
  unfold spec_piMake.f
  refine Ev.bind (spec_piWays.ev l hl h1 hs) (Ev.ite (fun c => Ev.val ?_) (fun c => Ev.pos ha (Ev.pos (by omega) (Ev.val ?_))))
  · rw [tab_length] at c; rw [cnt_above l h0 a (by omega)]
  · rw [tab_length] at c; rw [rd_tab _ _ _ ha (by omega)]
theorem impl_waysOf.ev (l : List Int) (a : Int) (hl : l.length ≤ 20) (h1 : ∀ x ∈ l, 1 ≤ x) (hs : l.sum ≤ 1000000000) (ha : 0 ≤ a) : Ev (fun k => impl_waysOf.f k l a) (cnt l a) := by
  have h0 : ∀ x ∈ l, 0 ≤ x := fun x hx => by have := h1 x hx; omega
  have hn := sum_nonneg l h0
  unfold impl_waysOf.f
  refine Ev.bind (impl_total.ev l (by omega) h0 hs) (Ev.ite (fun c => Ev.val ?_) (fun c => Ev.bind (impl_ways.ev l hl h1 hs) (Ev.pos ha (Ev.pos ?_ (Ev.val ?_)))))
  · rw [cnt_above l h0 a (by omega)]
  · rw [tab_length]; omega
  · rw [rd_tab _ _ _ ha (by omega)]
/-- What a clue of a kind tells of pieces. -/
def pzV (kind a : Int) (l : List Int) : Int :=
  if kind = 0 then (l.length : Int) else if kind = 1 then l.sum else if kind = 2 then (if cnt l a < 1 then cnt l a else 1) else if kind = 3 then runL l 0 else if kind = 4 then cnt l a else (l.count a : Int)
theorem spec_pzValue.ev_l (a : Int) (s : List Int) : ∀ (p : List Int) (c : Int), p.length + s.length ≤ 1000000000 → 0 ≤ c → c + s.length ≤ 1000000000 → Ev (fun k => spec_pzValue.l0 k a c (p ++ s) ((p ++ s).length : Int) (p.length : Int)) (c + (s.count a : Int)) := by
  induction s with
  | nil =>
    intro p c hp h0 hs
    refine Ev.step (f := fun _ => some c) (fun k => ?_) (Ev.val (by simp))
    rw [spec_pzValue.l0, if_neg (by simp)]
  | cons x s ih =>
    intro p c hp h0 hs
    simp only [List.length_cons] at hp hs
    by_cases e : x = a
    · have h := ih (p ++ [x]) (c + 1) (by simp <;> omega) (by omega) (by omega)
      refine Ev.step (f := fun k => spec_pzValue.l0 k a (c + 1) ((p ++ [x]) ++ s) (((p ++ [x]) ++ s).length : Int) ((p ++ [x]).length : Int)) (fun k => ?_) (Ev.eq h (by rw [List.count_cons, if_pos (by simpa using e)]; omega))
      rw [spec_pzValue.l0, if_pos (by simp <;> omega), if_pos (by omega), if_pos (by simp <;> omega), rd_app, if_pos e, w64 (n := c + 1) (by omega) (by omega), w64 (by omega) (by omega)]
      simp
    · have h := ih (p ++ [x]) c (by simp <;> omega) (by omega) (by omega)
      refine Ev.step (f := fun k => spec_pzValue.l0 k a c ((p ++ [x]) ++ s) (((p ++ [x]) ++ s).length : Int) ((p ++ [x]).length : Int)) (fun k => ?_) (Ev.eq h (by rw [List.count_cons, if_neg (by simpa using e)]; omega))
      rw [spec_pzValue.l0, if_pos (by simp <;> omega), if_pos (by omega), if_pos (by simp <;> omega), rd_app, if_neg e, w64 (by omega) (by omega)]
      simp
theorem spec_pzValue.ev (kind a : Int) (l : List Int) (hl : l.length ≤ 20) (h1 : ∀ x ∈ l, 1 ≤ x) (hs : l.sum ≤ 1000000000) (ha : 0 ≤ a ∨ ¬ (kind = 2 ∨ kind = 4)) : Ev (fun k => spec_pzValue.f k kind a l) (pzV kind a l) := by
  have h0 : ∀ x ∈ l, 0 ≤ x := fun x hx => by have := h1 x hx; omega
  unfold spec_pzValue.f pzV
  by_cases c0 : kind = 0
  · rw [if_pos c0]; exact Ev.pos c0 (Ev.val rfl)
  rw [if_neg c0]; refine Ev.neg c0 ?_
  by_cases c1 : kind = 1
  · rw [if_pos c1]; exact Ev.pos c1 (Ev.bind (spec_piSum.ev l (by omega) h0 hs) (Ev.val rfl))
  rw [if_neg c1]; refine Ev.neg c1 ?_
  by_cases c2 : kind = 2
  · rw [if_pos c2]; refine Ev.pos c2 (Ev.bind (spec_piMake.ev l a hl h1 hs (by omega)) (Ev.bindc (x := if cnt l a < 1 then cnt l a else 1) ?_ (Ev.val rfl)))
    unfold spec_l1Least.f
    by_cases c : 1 < cnt l a
    · rw [if_pos c, if_neg (by omega)]
    · rw [if_neg c]
      by_cases d : cnt l a < 1
      · rw [if_pos d]
      · rw [if_neg d]; congr 1; omega
  rw [if_neg c2]; refine Ev.neg c2 ?_
  by_cases c3 : kind = 3
  · rw [if_pos c3]; exact Ev.pos c3 (Ev.bind (spec_piRun.ev l (by omega) h0 hs) (Ev.val rfl))
  rw [if_neg c3]; refine Ev.neg c3 ?_
  by_cases c4 : kind = 4
  · rw [if_pos c4]; exact Ev.pos c4 (Ev.bind (spec_piMake.ev l a hl h1 hs (by omega)) (Ev.val rfl))
  rw [if_neg c4]; refine Ev.neg c4 ?_
  have h := spec_pzValue.ev_l a l [] 0 (by simp; omega) (by omega) (by omega)
  exact Ev.eq h (by omega)
theorem spec_pzAlone.val (k : Int) : spec_pzAlone.f k = some (decide (k < 2 ∨ k = 3)) := by
  unfold spec_pzAlone.f
  by_cases c : k < 2
  · rw [if_pos c]; simp [c]
  · rw [if_neg c]; simp only [c, false_or]; rfl
def clueL (kind a : Int) (l : List Int) : Int × Int × Int :=
  if kind = 0 then (0, (l.length : Int), 0) else if kind = 1 then (1, l.sum, 0) else if kind = 2 then (2, a, if cnt l a < 1 then cnt l a else 1) else if kind = 3 then (3, runL l 0, 0) else if kind = 4 then (4, a, cnt l a) else (5, a, (l.count a : Int))
theorem impl_clueOf.ev_l (a : Int) (s : List Int) : ∀ (p : List Int) (c : Int), p.length + s.length ≤ 1000000000 → 0 ≤ c → c + s.length ≤ 1000000000 → Ev (fun k => impl_clueOf.l0 k a c (p ++ s) ((p ++ s).length : Int) (p.length : Int)) (5, a, c + (s.count a : Int)) := by
  induction s with
  | nil =>
    intro p c hp h0 hs
    refine Ev.step (f := fun _ => some (5, a, c)) (fun k => ?_) (Ev.val (by simp))
    rw [impl_clueOf.l0, if_neg (by simp)]
  | cons x s ih =>
    intro p c hp h0 hs
    simp only [List.length_cons] at hp hs
    by_cases e : x = a
    · have h := ih (p ++ [x]) (c + 1) (by simp <;> omega) (by omega) (by omega)
      refine Ev.step (f := fun k => impl_clueOf.l0 k a (c + 1) ((p ++ [x]) ++ s) (((p ++ [x]) ++ s).length : Int) ((p ++ [x]).length : Int)) (fun k => ?_) (Ev.eq h (by rw [List.count_cons, if_pos (by simpa using e)]; congr 2; omega))
      rw [impl_clueOf.l0, if_pos (by simp <;> omega), if_pos (by omega), if_pos (by simp <;> omega), rd_app, if_pos e, w64 (n := c + 1) (by omega) (by omega), w64 (by omega) (by omega)]
      simp
    · have h := ih (p ++ [x]) c (by simp <;> omega) (by omega) (by omega)
      refine Ev.step (f := fun k => impl_clueOf.l0 k a c ((p ++ [x]) ++ s) (((p ++ [x]) ++ s).length : Int) ((p ++ [x]).length : Int)) (fun k => ?_) (Ev.eq h (by rw [List.count_cons, if_neg (by simpa using e)]; simp))
      rw [impl_clueOf.l0, if_pos (by simp <;> omega), if_pos (by omega), if_pos (by simp <;> omega), rd_app, if_neg e, w64 (by omega) (by omega)]
      simp
theorem mn_one (x : Int) : mn 1 x = if x < 1 then x else 1 := by unfold mn; rfl
theorem impl_clueOf.ev (kind a : Int) (l : List Int) (hl : l.length ≤ 20) (h1 : ∀ x ∈ l, 1 ≤ x) (hs : l.sum ≤ 1000000000) (ha : 0 ≤ a ∨ ¬ (kind = 2 ∨ kind = 4)) : Ev (fun k => impl_clueOf.f k kind a l) (clueL kind a l) := by
  have h0 : ∀ x ∈ l, 0 ≤ x := fun x hx => by have := h1 x hx; omega
  unfold impl_clueOf.f clueL
  by_cases c0 : kind = 0
  · rw [if_pos c0]; exact Ev.pos c0 (Ev.val rfl)
  rw [if_neg c0]; refine Ev.neg c0 ?_
  by_cases c1 : kind = 1
  · rw [if_pos c1]; exact Ev.pos c1 (Ev.bind (impl_total.ev l (by omega) h0 hs) (Ev.val rfl))
  rw [if_neg c1]; refine Ev.neg c1 ?_
  by_cases c2 : kind = 2
  · rw [if_pos c2]; exact Ev.pos c2 (Ev.bind (impl_waysOf.ev l a hl h1 hs (by omega)) (Ev.val (by rw [mn_one])))
  rw [if_neg c2]; refine Ev.neg c2 ?_
  by_cases c3 : kind = 3
  · rw [if_pos c3]; exact Ev.pos c3 (Ev.bind (impl_run.ev l (by omega) h0 hs) (Ev.val rfl))
  rw [if_neg c3]; refine Ev.neg c3 ?_
  by_cases c4 : kind = 4
  · rw [if_pos c4]; exact Ev.pos c4 (Ev.bind (impl_waysOf.ev l a hl h1 hs (by omega)) (Ev.val rfl))
  rw [if_neg c4]; refine Ev.neg c4 ?_
  have h := impl_clueOf.ev_l a l [] 0 (by simp; omega) (by omega) (by omega)
  exact Ev.eq h (by congr 2; omega)
theorem clueB_a {kind a b : Int} (h : clueB kind a b = true) : 0 ≤ a ∨ ¬ (kind = 2 ∨ kind = 4) := by
  unfold clueB at h
  by_cases c2 : kind = 2
  · subst c2; simp [inB] at h; omega
  by_cases c4 : kind = 4
  · subst c4; simp [inB] at h; omega
  omega
theorem hiddenB_facts {l : List Int} (h : hiddenB l = true) : l.length ≤ 4 ∧ (∀ x ∈ l, 1 ≤ x ∧ x ≤ 6) ∧ l.sum ≤ 24 := by
  unfold hiddenB at h
  simp only [Bool.and_eq_true, decide_eq_true_eq, List.all_eq_true] at h
  have h2 : ∀ x ∈ l, 1 ≤ x ∧ x ≤ 6 := fun x hx => h.1.2 x hx
  have h3 := sum_le l 6 (fun x hx => (h2 x hx).2)
  exact ⟨h.1.1, h2, by omega⟩
/-- The integers in order. -/
def sortL (l : List Int) : List Int := l.mergeSort fun x y => decide (x ≤ y)
theorem perm_sorted_eq : ∀ (a b : List Int), a.Perm b → a.Pairwise (fun x y => x ≤ y) → b.Pairwise (fun x y => x ≤ y) → a = b
  | [], b, h, _, _ => (List.nil_perm.1 h).symm
  | x :: a, [], h, _, _ => absurd h.length_eq (by simp)
  | x :: a, y :: b, h, ha, hb => by
    rw [List.pairwise_cons] at ha hb
    have hy : y ∈ x :: a := h.symm.subset (by simp)
    have hx : x ∈ y :: b := h.subset (by simp)
    have e : x = y := by
      rcases List.mem_cons.1 hy with e1 | e1
      · exact e1.symm
      · rcases List.mem_cons.1 hx with e2 | e2
        · exact e2
        · have := ha.1 y e1; have := hb.1 x e2; omega
    subst e
    rw [perm_sorted_eq a b (List.Perm.cons_inv h) ha.2 hb.2]
theorem sortL_perm (l : List Int) : (sortL l).Perm l := List.mergeSort_perm l _
theorem sortL_sorted (l : List Int) : (sortL l).Pairwise (fun x y => x ≤ y) := by
  have h := List.pairwise_mergeSort (le := fun x y : Int => decide (x ≤ y)) (fun a b c h1 h2 => by simp at *; omega) (fun a b => by simp; omega) l
  exact h.imp (fun h => of_decide_eq_true h)
theorem sortL_length (l : List Int) : (sortL l).length = l.length := (sortL_perm l).length_eq
/-- The pieces along a chain. -/
def partsL (links : Int) : List Int → Int → List Int
  | [], n => if n < links then [links - n] else []
  | c :: s, n => if n < c then (c - n) :: 1 :: partsL links s (c + 1) else 1 :: partsL links s (c + 1)
theorem partsL_length (links : Int) : ∀ (s : List Int) (n : Int), (partsL links s n).length ≤ 2 * s.length + 1
  | [], n => by rw [partsL]; split <;> simp
  | c :: s, n => by
    have := partsL_length links s (c + 1)
    rw [partsL]
    split <;> simp <;> omega
theorem partsL_pos (links : Int) (hl : 1 ≤ links) (s : List Int) : 0 < (partsL links s 0).length := by
  cases s with
  | nil => rw [partsL, if_pos (by omega)]; simp
  | cons c s => rw [partsL]; split <;> simp
theorem partsL_ge (links : Int) : ∀ (s : List Int) (n : Int), (∀ x ∈ partsL links s n, 1 ≤ x)
  | [], n, x, hx => by
    rw [partsL] at hx
    split at hx
    · simp at hx; omega
    · simp at hx
  | c :: s, n, x, hx => by
    have := partsL_ge links s (c + 1)
    rw [partsL] at hx
    split at hx
    · simp at hx
      rcases hx with h | h | h
      · omega
      · omega
      · exact this x h
    · simp at hx
      rcases hx with h | h
      · omega
      · exact this x h
theorem partsL_le (links : Int) (hl : links ≤ 1000) : ∀ (s : List Int) (n : Int), 0 ≤ n → (∀ x ∈ s, 0 ≤ x ∧ x ≤ 1000) → (∀ x ∈ partsL links s n, x ≤ 1000)
  | [], n, hn, hs, x, hx => by
    rw [partsL] at hx
    split at hx
    · simp at hx; omega
    · simp at hx
  | c :: s, n, hn, hs, x, hx => by
    have hc := hs c (by simp)
    have := partsL_le links hl s (c + 1) (by omega) (fun y hy => hs y (by simp [hy]))
    rw [partsL] at hx
    split at hx
    · simp at hx
      rcases hx with h | h | h
      · omega
      · omega
      · exact this x h
    · simp at hx
      rcases hx with h | h
      · omega
      · exact this x h
def cutsB (a : Int) (l : List Int) : Bool := inB a 1 1000 && (decide (l.length ≤ 9) && ((l.all fun x => inB x 0 (a - 1)) && risesB l))
theorem cutsB_in {a : Int} {l : List Int} (h : cutsB a l = true) : 1 ≤ a ∧ a ≤ 1000 ∧ l.length ≤ 9 ∧ ∀ x ∈ l, 0 ≤ x ∧ x ≤ a - 1 := by
  unfold cutsB inB at h
  simp at h
  exact ⟨h.1.1, h.1.2, h.2.1, h.2.2.1⟩
theorem cutsB_in' {a : Int} {l : List Int} (h : cutsB a l = true) : ∀ x ∈ l, 0 ≤ x ∧ x ≤ 1000 := fun x hx => by
  obtain ⟨_, h2, _, h4⟩ := cutsB_in h
  have := h4 x hx; omega
theorem spec_pzOf.ev (kind a : Int) (l : List Int) (hk : 0 ≤ kind ∧ kind ≤ 5) (hl : l.length ≤ 20) (h1 : ∀ x ∈ l, 1 ≤ x) (hs : l.sum ≤ 1000000000) (ha : 0 ≤ a) : Ev (fun k => spec_pzOf.f k kind a l) (clueL kind a l) := by
  refine Ev.bindc (spec_pzAlone.val kind) (Ev.ite (fun c => ?_) (fun c => ?_))
  · refine Ev.bind (spec_pzValue.ev kind 0 l hl h1 hs (.inl (by omega))) (Ev.val ?_)
    have c' := of_decide_eq_true c
    have e : kind = 0 ∨ kind = 1 ∨ kind = 3 := by omega
    rcases e with e | e | e <;> (subst e; simp [clueL, pzV])
  · refine Ev.bind (spec_pzValue.ev kind a l hl h1 hs (.inl ha)) (Ev.val ?_)
    have c' : ¬ (kind < 2 ∨ kind = 3) := fun q => c (decide_eq_true q)
    have e : kind = 2 ∨ kind = 4 ∨ kind = 5 := by omega
    rcases e with e | e | e <;> (subst e; simp [clueL, pzV])
def mkB (l : List Int) : Nat → Int → List S76 → List S76
  | 0, _, acc => acc
  | d + 1, z, acc => mkB l d (nxtZ (nxtZ z)) (acc ++ [⟨(clueL (Int.tmod (nxtZ z) 6) (mkArg z) l).1, (clueL (Int.tmod (nxtZ z) 6) (mkArg z) l).2.1, (clueL (Int.tmod (nxtZ z) 6) (mkArg z) l).2.2⟩])
theorem mkB_length (l : List Int) : ∀ (d : Nat) (z : Int) (acc : List S76), (mkB l d z acc).length = acc.length + d
  | 0, _, _ => rfl
  | d + 1, z, acc => by rw [mkB, mkB_length l d]; simp; omega
theorem kind_in (z : Int) : 0 ≤ Int.tmod (nxtZ z) 6 ∧ Int.tmod (nxtZ z) 6 ≤ 5 := by
  have h := nxtZ_in z
  rw [Int.tmod_eq_emod_of_nonneg h.1]; omega
theorem tmod25_in (z : Int) : 0 ≤ Int.tmod (nxtZ z) 25 := by
  have h := nxtZ_in z
  rw [Int.tmod_eq_emod_of_nonneg h.1]; omega
theorem mkArg_nonneg (z : Int) : 0 ≤ mkArg z := by
  unfold mkArg
  have h1 := kind_in (nxtZ z)
  have h2 := tmod25_in (nxtZ z)
  split
  · rw [w64 (by omega) (by omega)]; omega
  · exact h2
theorem mkL.ev (l : List Int) (hl : l.length ≤ 20) (h1 : ∀ x ∈ l, 1 ≤ x) (hs : l.sum ≤ 1000000000) : ∀ (d : Nat) (z : Int) (acc : List S76), Ev (fun k => mkL k l d z acc) (mkB l d z acc)
  | 0, _, _ => Ev.val rfl
  | d + 1, z, acc => Ev.bind (impl_clueOf.ev _ _ l hl h1 hs (.inl (mkArg_nonneg z))) (mkL.ev l hl h1 hs d _ _)
theorem spec_pzNext.val (z : Int) (h : 0 ≤ z ∧ z ≤ 10006) : spec_pzNext.f z = some (nxtZ z) := by
  unfold spec_pzNext.f nxtZ
  rw [w64 (n := 179 * z) (by omega) (by omega), w64 (by omega) (by omega), Int.tmod_eq_emod_of_nonneg (by omega), Int.mul_comm]
theorem spec_MakePuzzle.ev_l (l : List Int) (hl : l.length ≤ 20) (h1 : ∀ x ∈ l, 1 ≤ x) (hs : l.sum ≤ 1000000000) : ∀ (d : Nat) (z : Int) (acc : List S76), d ≤ 1000000 → 0 ≤ z ∧ z ≤ 10006 → acc.length + d ≤ 1000000 → Ev (fun k => spec_MakePuzzle.l0 k l (d : Int) z acc) (mkB l d z acc, true)
  | 0, z, acc, _, _, _ => by
    refine Ev.step (f := fun _ => some (acc, true)) (fun k => ?_) (Ev.val rfl)
    rw [spec_MakePuzzle.l0, if_neg (by omega)]
  | d + 1, z, acc, hd, hz, ha => by
    have hz1 := nxtZ_in z
    have hz2 := nxtZ_in (nxtZ z)
    have hk := kind_in z
    have hg := mkArg_nonneg z
    have h := spec_MakePuzzle.ev_l l hl h1 hs d (nxtZ (nxtZ z)) (acc ++ [⟨(clueL (Int.tmod (nxtZ z) 6) (mkArg z) l).1, (clueL (Int.tmod (nxtZ z) 6) (mkArg z) l).2.1, (clueL (Int.tmod (nxtZ z) 6) (mkArg z) l).2.2⟩]) (by omega) hz2 (by simp; omega)
    have ho := spec_pzOf.ev _ _ l hk hl h1 hs hg
    have hw : wrap64 (((d + 1 : Nat) : Int) - 1) = (d : Int) := by rw [w64 (by omega) (by omega)]; omega
    refine Ev.step (f := fun k => (spec_pzOf.f k (Int.tmod (nxtZ z) 6) (mkArg z) l).bind fun bt => spec_MakePuzzle.l0 k l (d : Int) (nxtZ (nxtZ z)) (acc ++ [⟨bt.1, bt.2.1, bt.2.2⟩])) (fun k => ?_) (Ev.bind ho h)
    rw [spec_MakePuzzle.l0, if_pos (by omega), spec_pzNext.val z hz, Option.bind_some, spec_pzNext.val _ hz1, Option.bind_some, hw]
    unfold mkArg
    by_cases c : Int.tmod (nxtZ z) 6 = 5
    · rw [if_pos c, if_pos c]
      congr 1; funext t; rw [if_pos (by omega)]
    · rw [if_neg c, if_neg c]
      congr 1; funext t; rw [if_pos (by omega)]
def makeB (l : List Int) (m s : Int) : List S76 × Bool := if hiddenB l = true ∧ 0 ≤ m ∧ m ≤ 6 ∧ 0 ≤ s ∧ s ≤ 9999 then (mkB l m.toNat s [], true) else ([], false)
theorem makeB_length (l : List Int) (m s : Int) : (makeB l m s).1.length ≤ 6 := by
  unfold makeB
  split
  · rename_i h; rw [mkB_length]; simp; omega
  · simp
theorem impl_MakePuzzle.ev (l : List Int) (m s : Int) (hl : l.length ≤ 9223372036854775806) : Ev (fun k => impl_MakePuzzle.f k l m s) (makeB l m s) := by
  unfold impl_MakePuzzle.f makeB
  refine Ev.bind (impl_IsHidden.ev l hl) (Ev.ite (fun c => ?_) (fun c => Ev.val (by rw [if_neg c])))
  obtain ⟨f1, f2, f3⟩ := hiddenB_facts c.1
  rw [if_pos c]
  exact Ev.bind (mkL.ev l (by omega) (fun x hx => (f2 x hx).1) (by omega) _ _ _) (Ev.val rfl)
theorem spec_MakePuzzle.ev (l : List Int) (m s : Int) (hl : l.length ≤ 9223372036854775806) : Ev (fun k => spec_MakePuzzle.f k l m s) (makeB l m s) := by
  unfold spec_MakePuzzle.f makeB
  have hj : ∀ x, x = true → Ev (fun k => spec_MakePuzzle.j0 k l m s x) (([] : List S76), false) := fun x hx => by
    refine Ev.step (f := fun _ => some (([] : List S76), false)) (fun k => ?_) (Ev.val rfl)
    rw [spec_MakePuzzle.j0, if_pos hx]
  refine Ev.bind (spec_pzHidden.ev l hl) (Ev.ite (fun c => Ev.bindc (spec_l1In.valB m 0 6) (Ev.ite (fun c2 => Ev.bindc (spec_l1In.valB s 0 9999) ?_) (fun c2 => ?_))) (fun c => ?_))
  · have d2 : 0 ≤ m ∧ m ≤ 6 := by simpa [inB] using c2
    by_cases c3 : inB s 0 9999 = true
    · have d3 : 0 ≤ s ∧ s ≤ 9999 := by simpa [inB] using c3
      obtain ⟨f1, f2, f3⟩ := hiddenB_facts c
      rw [if_pos ⟨c, d2.1, d2.2, d3.1, d3.2⟩, c3]
      have h := spec_MakePuzzle.ev_l l (by omega) (fun x hx => (f2 x hx).1) (by omega) m.toNat s [] (by omega) (by omega) (by simp; omega)
      rw [Int.toNat_of_nonneg d2.1] at h
      refine Ev.step (f := fun k => spec_MakePuzzle.l0 k l m s []) (fun k => ?_) h
      rw [spec_MakePuzzle.j0, if_neg (by simp)]
    · rw [if_neg (fun q => c3 (by simp [inB, q.2.2.2.1, q.2.2.2.2]))]
      exact hj _ (by simpa using c3)
  · rw [if_neg (fun q => c2 (by simp [inB, q.2.1, q.2.2.1]))]
    exact hj _ rfl
  · rw [if_neg (fun q => c q.1)]
    exact hj _ rfl
theorem FnExactMakePuzzle : laws_FnExactMakePuzzle.Pure := by
  intro l m s hm h8 _ _ _
  refine Ev.rounds (g := fun k => laws_FnExactMakePuzzle.f k l m s) ?_
  unfold laws_FnExactMakePuzzle.f
  have hb : l.length ≤ 35184372088832 := by omega
  refine Ev.ite (fun _ => Ev.val rfl) (fun h => ?_)
  have h1 := laws_toIntS.ev l hb
  have hR := makeB_length l m s
  have hs := spec_MakePuzzle.ev l m s (by omega)
  have hi := impl_MakePuzzle.ev l m s (by omega)
  generalize makeB l m s = R at *
  have heR := laws_eqPuzzle.same R.1 (by omega)
  refine Ev.bind h1 (Ev.bind hs (Ev.bind h1 (Ev.bind hi (Ev.bind heR (Ev.pos rfl ?_)))))
  apply Ev.step
  · intro k; rw [laws_FnExactMakePuzzle.j0]
  refine Ev.neg (by simp) (Ev.bind h1 (Ev.bind (laws_eqIntS.ev l l hb) (Ev.pos (by simp) (Ev.bind (laws_markIntS.ev l (by omega)) (Ev.neg (by omega) (Ev.bind heR (Ev.pos rfl ?_)))))))
  apply Ev.step
  · intro k; rw [laws_FnExactMakePuzzle.j1]
  refine Ev.neg (by simp) (Ev.bind (laws_puzzle.mark R.1 (by omega)) (Ev.bind (laws_puzzle.held R.1 (by omega)) (Ev.neg (by omega) (Ev.pos rfl (Ev.bind h1 (Ev.bind hi (Ev.bind heR (Ev.pos rfl ?_))))))))
  apply Ev.step
  · intro k; rw [laws_FnExactMakePuzzle.j2]
  exact Ev.neg (by simp) (Ev.bind (laws_puzzle.held R.1 (by omega)) (Ev.neg (by omega) (Ev.pos rfl (Ev.val rfl))))
end Go.Proofs.Ytfiikhdkohgmfaa.Pure
