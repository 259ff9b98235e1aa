/- For all arguments within the row's reach the law FnPiecesHidden answers true.
No further conditions. -/
import Derived.Test.YtgeoihhibglhgaaPFnPiecesHiddenx0
import Derived.Test.YtgeoihhibglhgaaPFnPiecesHiddenx1
import Derived.Test.YtgeoihhibglhgaaPFnPiecesHiddenx10
import Derived.Test.YtgeoihhibglhgaaPFnPiecesHiddenx11
import Derived.Test.YtgeoihhibglhgaaPFnPiecesHiddenx12
import Derived.Test.YtgeoihhibglhgaaPFnPiecesHiddenx13
import Derived.Test.YtgeoihhibglhgaaPFnPiecesHiddenx14
import Derived.Test.YtgeoihhibglhgaaPFnPiecesHiddenx15
import Derived.Test.YtgeoihhibglhgaaPFnPiecesHiddenx16
import Derived.Test.YtgeoihhibglhgaaPFnPiecesHiddenx17
import Derived.Test.YtgeoihhibglhgaaPFnPiecesHiddenx18
import Derived.Test.YtgeoihhibglhgaaPFnPiecesHiddenx19
import Derived.Test.YtgeoihhibglhgaaPFnPiecesHiddenx2
import Derived.Test.YtgeoihhibglhgaaPFnPiecesHiddenx3
import Derived.Test.YtgeoihhibglhgaaPFnPiecesHiddenx4
import Derived.Test.YtgeoihhibglhgaaPFnPiecesHiddenx5
import Derived.Test.YtgeoihhibglhgaaPFnPiecesHiddenx6
import Derived.Test.YtgeoihhibglhgaaPFnPiecesHiddenx7
import Derived.Test.YtgeoihhibglhgaaPFnPiecesHiddenx8
import Derived.Test.YtgeoihhibglhgaaPFnPiecesHiddenx9
set_option linter.unusedVariables false
set_option linter.unusedSimpArgs false
namespace Go.Proofs.Ytgeoihhibglhgaa.Pure
open Go.RowKit Go.Proofs.Ytgeoihhibglhgaa.PFnPiecesHidden Go.Proofs.YtgeoihhibglhgaaW.PrintWords Go.Proofs.YtgeoihhibglhgaaW.PrintLast Go.Proofs.YtgeoihhibglhgaaW.PrintMore
theorem Ev.pos {α : Type} {c : Prop} [Decidable c] {g f : Nat → Option α} {r : α} (hc : c) (h : Ev g r) : Ev (fun k => if c then g k else f k) r := by
 obtain ⟨K, h⟩ := h
 exact ⟨K, fun k hk => by show (if c then g k else f k) = _; rw [if_pos hc]; exact h k hk⟩
theorem Ev.neg {α : Type} {c : Prop} [Decidable c] {g f : Nat → Option α} {r : α} (hc : ¬ c) (h : Ev f r) : Ev (fun k => if c then g k else f k) r := by
 obtain ⟨K, h⟩ := h
 exact ⟨K, fun k hk => by show (if c then g k else f k) = _; rw [if_neg hc]; exact h k hk⟩
theorem Ev.val {α : Type} {a r : α} (h : a = r) : Ev (fun _ => some a) r := ⟨0, fun _ _ => by rw [h]⟩
theorem Ev.const {α : Type} {a : Option α} {r : α} (h : a = some r) : Ev (fun _ => a) r := ⟨0, fun _ _ => h⟩
theorem Ev.bindc {α β : Type} {a : Option α} {f : Nat → α → Option β} {x : α} {r : β} (h : a = some x) (k : Ev (fun n => f n x) r) : Ev (fun n => a.bind (f n)) r := by
 obtain ⟨K, k⟩ := k
 exact ⟨K, fun n hn => by show a.bind (f n) = _; rw [h]; exact k n hn⟩
theorem Ev.eq {α : Type} {g : Nat → Option α} {r r' : α} (h : Ev g r) (e : r = r') : Ev g r' := e ▸ h
def inB (a b c : Int) : Bool := decide (b ≤ a) && decide (a ≤ c)
theorem Ev.ite {α : Type} {c : Prop} [Decidable c] {g f : Nat → Option α} {r : α} (h : c → Ev g r) (h' : ¬ c → Ev f r) : Ev (fun k => if c then g k else f k) r := by
 by_cases hc : c
 · exact Ev.pos hc (h hc)
 exact Ev.neg hc (h' hc)
theorem rd_eq (l : List Int) (i : Nat) (h : i < l.length) : rd l (i : Int) = l[i] := by simp [rd, List.getD_eq_getElem?_getD, List.getElem?_eq_getElem h]
theorem rd_app (p : List Int) (x : Int) (s : List Int) : rd (p ++ x :: s) (p.length : Int) = x := by simp [rd, List.getD_eq_getElem?_getD]
theorem w64 {n : Int} (h0 : -9223372036854775808 ≤ n) (h1 : n ≤ 9223372036854775807) : wrap64 n = n := by unfold wrap64; omega
theorem spec_l1In.val (a b c : Int) : spec_l1In.f a b c = some (decide (b ≤ a) && decide (a ≤ c)) := by
 unfold spec_l1In.f
 by_cases h : a ≥ b
 · rw [if_pos h]; simp [show b ≤ a from h]
 rw [if_neg h]; simp [show ¬ b ≤ a from h]
theorem spec_l1In.valB (a b c : Int) : spec_l1In.f a b c = some (inB a b c) := spec_l1In.val a b c
theorem impl_within.val (a b c : Int) : impl_within.f a b c = some (decide (b ≤ a) && decide (a ≤ c)) := by
 unfold impl_within.f
 by_cases h : b ≤ a
 · rw [if_pos h]; simp [h]
 rw [if_neg h]; simp [h]
theorem impl_within.valB (a b c : Int) : impl_within.f a b c = some (inB a b c) := impl_within.val a b c
theorem spec_l1All.ev_l (a b : Int) (s : List Int) : ∀ (p : List Int), p.length + s.length ≤ 9223372036854775807 → Ev (fun k => spec_l1All.l0 k a b (p ++ s) ((p ++ s).length : Int) (p.length : Int)) (s.all fun x => decide (a ≤ x) && decide (x ≤ b)) := by
 induction s with
 | nil =>
  intro p hp
  refine Ev.step (f := fun _ => some true) (fun k => ?_) (Ev.val (by simp))
  rw [spec_l1All.l0, if_neg (by simp)]
 | cons x s ih =>
  intro p hp
  simp only [List.length_cons] at hp
  have h := ih (p ++ [x]) (by simp <;> omega)
  by_cases c : (decide (a ≤ x) && decide (x ≤ b)) = true
  · refine Ev.step (f := fun k => spec_l1All.l0 k a b ((p ++ [x]) ++ s) (((p ++ [x]) ++ s).length : Int) ((p ++ [x]).length : Int)) (fun k => ?_) (Ev.eq h (by simp only [List.all_cons]; rw [c]; rfl))
    rw [spec_l1All.l0, if_pos (by simp <;> omega), if_pos (by omega), if_pos (by simp <;> omega), rd_app, spec_l1In.val, Option.bind_some, if_pos c, w64 (by omega) (by omega)]
    simp
  refine Ev.step (f := fun _ => some false) (fun k => ?_) (Ev.val (by simp only [List.all_cons]; rw [Bool.not_eq_true] at c; rw [c]; rfl))
  rw [spec_l1All.l0, if_pos (by simp <;> omega), if_pos (by omega), if_pos (by simp <;> omega), rd_app, spec_l1In.val, Option.bind_some, if_neg c]
theorem spec_l1All.ev (l : List Int) (a b : Int) (hl : l.length ≤ 9223372036854775807) : Ev (fun k => spec_l1All.f k l a b) (l.all fun x => decide (a ≤ x) && decide (x ≤ b)) :=
 spec_l1All.ev_l a b l [] (by simpa using hl)
/-- No element is less than the one before. -/
def sortedB : List Int → Bool
 | [] => true
 | [_] => true
 | x :: y :: s => decide (x ≤ y) && sortedB (y :: s)
theorem sortedB_iff (l : List Int) : sortedB l = true ↔ ∀ i : Nat, ∀ h : i + 1 < l.length, l[i] ≤ l[i + 1] := by
 induction l with
 | nil => simp [sortedB]
 | cons x s ih =>
  cases s with
  | nil => simp [sortedB]
  | cons y s =>
   simp only [sortedB, Bool.and_eq_true, decide_eq_true_eq, ih]
   constructor
   · rintro ⟨h1, h2⟩ i hi
     cases i with
     | zero => exact h1
     | succ i => exact h2 i (by simpa using hi)
   intro h
   exact ⟨h 0 (by simp), fun i hi => h (i + 1) (by simpa using hi)⟩
def piGoodB (l : List Int) : Bool := decide (l.length ≤ 20) && (l.all fun x => decide (1 ≤ x) && decide (x ≤ 10000)) && sortedB l
theorem spec_piGood.ev_l (s : List Int) : ∀ (p : List Int) (x : Int), p.length + s.length + 1 ≤ 9223372036854775806 → Ev (fun k => spec_piGood.l0 k (p ++ x :: s) ((p.length + 1 : Nat) : Int)) (sortedB (x :: s)) := by
 induction s with
 | nil =>
  intro p x hp
  refine Ev.step (f := fun _ => some true) (fun k => ?_) (Ev.val (by simp [sortedB]))
  rw [spec_piGood.l0, if_neg (by simp)]
 | cons y s ih =>
  intro p x hp
  simp only [List.length_cons] at hp
  have e1 : rd (p ++ x :: y :: s) (p.length : Int) = x := rd_app p x _
  have e2 : rd (p ++ x :: y :: s) ((p.length + 1 : Nat) : Int) = y := by
   have := rd_app (p ++ [x]) y s
   simpa using this
  have hw : wrap64 (((p.length + 1 : Nat) : Int) - 1) = (p.length : Int) := by rw [w64 (by omega) (by omega)]; omega
  by_cases c : x ≤ y
  · have h := ih (p ++ [x]) y (by simp <;> omega)
    refine Ev.step (f := fun k => spec_piGood.l0 k ((p ++ [x]) ++ y :: s) (((p ++ [x]).length + 1 : Nat) : Int)) (fun k => ?_) (Ev.eq h (by simp [sortedB, c]))
    rw [spec_piGood.l0, if_pos (by simp <;> omega), hw, if_pos (by omega), if_pos (by simp <;> omega), if_pos (by omega), e1, e2, if_neg (by omega), w64 (by omega) (by omega)]
    simp
  refine Ev.step (f := fun _ => some false) (fun k => ?_) (Ev.val (by simp [sortedB, c]))
  rw [spec_piGood.l0, if_pos (by simp <;> omega), hw, if_pos (by omega), if_pos (by simp <;> omega), if_pos (by omega), e1, e2, if_pos (by omega)]
theorem spec_piGood.ev (l : List Int) (hl : l.length ≤ 9223372036854775806) : Ev (fun k => spec_piGood.f k l) (piGoodB l) := by
 unfold spec_piGood.f
 refine Ev.ite (fun h => ?_) (fun h => ?_)
 · refine Ev.step (f := fun _ => some false) (fun k => ?_) (Ev.val ?_)
   · rw [spec_piGood.j0, if_pos rfl]
   unfold piGoodB; rw [decide_eq_false (by omega)]; rfl
 refine Ev.bind (spec_l1All.ev l 1 10000 (by omega)) ?_
 by_cases c : (l.all fun x => decide (1 ≤ x) && decide (x ≤ 10000)) = true
 · refine Ev.step (f := fun k => spec_piGood.l0 k l 1) (fun k => ?_) ?_
   · rw [spec_piGood.j0, c, if_neg (by decide)]
   have e : piGoodB l = sortedB l := by unfold piGoodB; rw [c, decide_eq_true (by omega)]; rfl
   rw [e]
   cases l with
   | nil =>
    refine Ev.step (f := fun _ => some true) (fun k => ?_) (Ev.val (by simp [sortedB]))
    rw [spec_piGood.l0, if_neg (by simp)]
   | cons x s => exact spec_piGood.ev_l s [] x (by simp at hl ⊢; omega)
 rw [Bool.not_eq_true] at c
 refine Ev.step (f := fun _ => some false) (fun k => ?_) (Ev.val ?_)
 · rw [spec_piGood.j0, c, if_pos (by decide)]
 unfold piGoodB; rw [c]; simp
def hiddenB (l : List Int) : Bool := decide (l.length ≤ 4) && (l.all fun x => decide (1 ≤ x) && decide (x ≤ 6)) && sortedB l
theorem all_wider {l : List Int} {a b a' b' : Int} (h : (l.all fun x => decide (a ≤ x) && decide (x ≤ b)) = true) (ha : a' ≤ a) (hb : b ≤ b') : (l.all fun x => decide (a' ≤ x) && decide (x ≤ b')) = true := by
 rw [List.all_eq_true] at h ⊢
 intro x hx
 have := h x hx
 simp at this ⊢
 omega
theorem spec_pzHidden.ev (l : List Int) (hl : l.length ≤ 9223372036854775806) : Ev (fun k => spec_pzHidden.f k l) (hiddenB l) := by
 unfold spec_pzHidden.f
 refine Ev.ite (fun h => ?_) (fun h => ?_)
 · refine Ev.bind (spec_piGood.ev l hl) ?_
   refine Ev.ite (fun c => ?_) (fun c => Ev.val ?_)
   · refine Ev.bind (spec_l1All.ev l 1 6 (by omega)) (Ev.val ?_)
     unfold piGoodB at c
     simp only [Bool.and_eq_true] at c
     unfold hiddenB
     rw [decide_eq_true (by omega), c.2]; simp
   unfold hiddenB
   rw [decide_eq_true (by omega)]
   cases e : (l.all fun x => decide (1 ≤ x) && decide (x ≤ 6)) with
   | false => simp
   | true =>
    have := all_wider e (a' := 1) (b' := 10000) (by omega) (by omega)
    unfold piGoodB at c
    rw [this, decide_eq_true (by omega)] at c
    simp at c
    simp [c]
 refine Ev.val ?_
 unfold hiddenB
 rw [decide_eq_false (by omega)]; rfl
theorem spec_IsHidden.ev (l : List Int) (hl : l.length ≤ 9223372036854775806) : Ev (fun k => spec_IsHidden.f k l) (hiddenB l) := by
 unfold spec_IsHidden.f
 exact Ev.bind (spec_pzHidden.ev l hl) (Ev.val rfl)
theorem impl_areWithin.val (l : List Int) (a b : Int) : impl_areWithin.f l a b = some (l.all fun x => decide (a ≤ x) && decide (x ≤ b)) := rfl
theorem cmp_Less_int.val (a b : Int) : cmp_Less_int.f a b = some (decide (a < b)) := by simp [cmp_Less_int.f, cmp_isNaN_int.f]
theorem slices_IsSorted_int_int.ev_l (l : List Int) (hl : l.length ≤ 9223372036854775806) (i : Nat) : i < l.length → Ev (fun k => slices_IsSorted_int_int.l0 k l (i : Int)) (sortedB (l.take (i + 1))) := by
 induction i with
 | zero =>
  intro hi
  refine Ev.step (f := fun _ => some true) (fun k => ?_) (Ev.val ?_)
  · rw [slices_IsSorted_int_int.l0, if_neg (by omega)]
  cases l with
  | nil => rfl
  | cons x s => simp [sortedB]
 | succ i ih =>
  intro hi
  have h := ih (by omega)
  have hw : wrap64 (((i + 1 : Nat) : Int) - 1) = (i : Int) := by rw [w64 (by omega) (by omega)]; omega
  have key : sortedB (l.take (i + 1 + 1)) = (decide (l[i] ≤ l[i + 1]) && sortedB (l.take (i + 1))) := by
   rw [Bool.eq_iff_iff, Bool.and_eq_true, decide_eq_true_eq, sortedB_iff, sortedB_iff]
   constructor
   · intro h
     refine ⟨by have := h i (by simp <;> omega); simpa using this, fun j hj => ?_⟩
     have hj' : j + 1 < i + 1 := by simp at hj; omega
     have := h j (by simp <;> omega)
     simpa using this
   rintro ⟨h1, h2⟩ j hj
   have hj' : j + 1 < i + 1 + 1 := by simp at hj; omega
   by_cases e : j = i
   · subst e; simpa using h1
   have := h2 j (by simp <;> omega)
   simpa using this
  by_cases c : l[i + 1] < l[i]
  · refine Ev.step (f := fun _ => some false) (fun k => ?_) (Ev.val (by rw [key, decide_eq_false (by omega)]; rfl))
    rw [slices_IsSorted_int_int.l0, if_pos (by omega), if_pos (by omega), if_pos (by omega), hw, if_pos (by omega), if_pos (by omega), rd_eq l _ hi, rd_eq l i (by omega), cmp_Less_int.val, Option.bind_some, if_pos (by simpa using c)]
  refine Ev.step (f := fun k => slices_IsSorted_int_int.l0 k l (i : Int)) (fun k => ?_) (Ev.eq h (by rw [key, decide_eq_true (by omega)]; rfl))
  rw [slices_IsSorted_int_int.l0, if_pos (by omega), if_pos (by omega), if_pos (by omega), hw, if_pos (by omega), if_pos (by omega), rd_eq l _ hi, rd_eq l i (by omega), cmp_Less_int.val, Option.bind_some, if_neg (by simpa using c)]
theorem slices_IsSorted_int_int.ev (l : List Int) (hl : l.length ≤ 9223372036854775806) : Ev (fun k => slices_IsSorted_int_int.f k l) (sortedB l) := by
 unfold slices_IsSorted_int_int.f
 cases l with
 | nil =>
  refine Ev.step (f := fun _ => some true) (fun k => ?_) (Ev.val (by simp [sortedB]))
  rw [slices_IsSorted_int_int.l0, if_neg (by rw [w64 (by simp) (by simp)]; simp)]
 | cons x s =>
  have h := slices_IsSorted_int_int.ev_l (x :: s) hl s.length (by simp)
  have hw : wrap64 ((((x :: s).length : Nat) : Int) - 1) = (s.length : Int) := by
   simp only [List.length_cons] at hl ⊢
   rw [w64 (by omega) (by omega)]; omega
  rw [hw]
  refine Ev.eq h ?_
  rw [List.take_of_length_le (by simp)]
theorem impl_IsHidden.ev (l : List Int) (hl : l.length ≤ 9223372036854775806) : Ev (fun k => impl_IsHidden.f k l) (hiddenB l) := by
 unfold impl_IsHidden.f
 refine Ev.ite (fun h => ?_) (fun h => ?_)
 · refine Ev.bindc (impl_areWithin.val l 1 6) ?_
   refine Ev.ite (fun c => ?_) (fun c => Ev.val ?_)
   · refine Ev.bind (slices_IsSorted_int_int.ev l hl) (Ev.val ?_)
     unfold hiddenB
     rw [decide_eq_true (by omega), c]; simp
   unfold hiddenB
   rw [Bool.not_eq_true] at c
   rw [c]; simp
 refine Ev.val ?_
 unfold hiddenB
 rw [decide_eq_false (by omega)]; rfl
theorem ite_and (t x : Bool) : (if t = true then some x else some false) = some (t && x) := by cases t <;> rfl
def clueB (k a b : Int) : Bool :=
 if k = 0 then inB a 0 4 && b == 0
 else if k = 1 then inB a 0 24 && b == 0
 else if k = 3 then inB a 0 24 && b == 0
 else if k = 2 then inB a 0 24 && inB b 0 1
 else if k = 4 then inB a 0 24 && inB b 0 16
 else if k = 5 then inB a 1 6 && inB b 0 4
 else false
theorem spec_pzClue.ev (k a b : Int) : Ev (fun n => spec_pzClue.f n k a b) (clueB k a b) := by
 unfold spec_pzClue.f
 by_cases h0 : k = 0
 · refine Ev.pos h0 (Ev.const ?_)
   rw [spec_l1In.valB, Option.bind_some, ite_and]; simp [clueB, h0]
 refine Ev.neg h0 ?_
 by_cases h1 : k = 1
 · refine Ev.pos h1 (Ev.step (f := fun _ => some (clueB k a b)) (fun n => ?_) (Ev.val rfl))
   subst h1
   rw [spec_pzClue.j0, if_pos (by rfl), spec_l1In.valB, Option.bind_some, ite_and]; simp [clueB]
 refine Ev.neg h1 (Ev.step (f := fun _ => some (clueB k a b)) (fun n => ?_) (Ev.val rfl))
 rw [spec_pzClue.j0]
 by_cases h3 : k = 3
 · subst h3
   rw [if_pos (by rfl), spec_l1In.valB, Option.bind_some, ite_and]; simp [clueB]
 rw [if_neg (by simp [h3])]
 simp only [spec_l1In.valB, Option.bind_some, ite_and]
 unfold clueB
 rw [if_neg h0, if_neg h1, if_neg h3]
 by_cases h2 : k = 2
 · rw [if_pos h2, if_pos h2]
 rw [if_neg h2, if_neg h2]
 by_cases h4 : k = 4
 · rw [if_pos h4, if_pos h4]
 rw [if_neg h4, if_neg h4]
 by_cases h5 : k = 5
 · rw [if_pos h5, if_pos h5]
 rw [if_neg h5, if_neg h5]
theorem spec_IsClue.ev (k a b : Int) : Ev (fun n => spec_IsClue.f n k a b) (clueB k a b) := by
 unfold spec_IsClue.f
 exact Ev.bind (spec_pzClue.ev k a b) (Ev.val rfl)
theorem impl_IsClue.ev (k a b : Int) : Ev (fun n => impl_IsClue.f n k a b) (clueB k a b) := by
 unfold impl_IsClue.f
 by_cases h0 : k = 0
 · refine Ev.pos h0 (Ev.const ?_)
   rw [impl_within.valB, Option.bind_some, ite_and]; simp [clueB, h0]
 refine Ev.neg h0 ?_
 by_cases h1 : k = 1
 · refine Ev.pos h1 (Ev.step (f := fun _ => some (clueB k a b)) (fun n => ?_) (Ev.val rfl))
   subst h1
   rw [impl_IsClue.j0, if_pos (by rfl), impl_within.valB, Option.bind_some, ite_and]; simp [clueB]
 refine Ev.neg h1 (Ev.step (f := fun _ => some (clueB k a b)) (fun n => ?_) (Ev.val rfl))
 rw [impl_IsClue.j0]
 by_cases h3 : k = 3
 · subst h3
   rw [if_pos (by rfl), impl_within.valB, Option.bind_some, ite_and]; simp [clueB]
 rw [if_neg (by simp [h3])]
 simp only [impl_within.valB, Option.bind_some, ite_and]
 unfold clueB
 rw [if_neg h0, if_neg h1, if_neg h3]
 by_cases h2 : k = 2
 · rw [if_pos h2, if_pos h2]
 rw [if_neg h2, if_neg h2]
 by_cases h4 : k = 4
 · rw [if_pos h4, if_pos h4]
 rw [if_neg h4, if_neg h4]
 by_cases h5 : k = 5
 · rw [if_pos h5, if_pos h5]
 rw [if_neg h5, if_neg h5]
def puzzleB (l : List S58) : Bool := decide (l.length ≤ 6) && l.all fun c => clueB c.f0 c.f1 c.f2
theorem rd_TG_app (p : List S58) (x : S58) (s : List S58) : rd_T58 (p ++ x :: s) (p.length : Int) = x := by simp [rd_T58, List.getD_eq_getElem?_getD]
theorem spec_pzGood.ev_l (s : List S58) : ∀ (p : List S58), p.length + s.length ≤ 9223372036854775806 → Ev (fun k => spec_pzGood.l0 k (p ++ s) ((p ++ s).length : Int) (p.length : Int)) (s.all fun c => clueB c.f0 c.f1 c.f2) := by
 induction s with
 | nil =>
  intro p hp
  refine Ev.step (f := fun _ => some true) (fun k => ?_) (Ev.val rfl)
  rw [spec_pzGood.l0, if_neg (by simp)]
 | cons x s ih =>
  intro p hp
  simp only [List.length_cons] at hp
  have h := ih (p ++ [x]) (by simp <;> omega)
  refine Ev.step (f := fun k => (spec_pzClue.f k x.f0 x.f1 x.f2).bind fun t => if t = true then spec_pzGood.l0 k ((p ++ [x]) ++ s) (((p ++ [x]) ++ s).length : Int) ((p ++ [x]).length : Int) else some false) (fun k => ?_) (Ev.bind (spec_pzClue.ev _ _ _) ?_)
  · rw [spec_pzGood.l0, if_pos (by simp <;> omega), if_pos (by omega), if_pos (by simp <;> omega), rd_TG_app, w64 (by omega) (by omega)]
    simp
  simp only [List.all_cons]
  refine Ev.ite (fun c => Ev.eq h (by rw [c]; rfl)) (fun c => Ev.val (by rw [Bool.not_eq_true] at c; rw [c]; rfl))
theorem spec_pzGood.ev (l : List S58) : Ev (fun k => spec_pzGood.f k l) (puzzleB l) := by
 unfold spec_pzGood.f puzzleB
 refine Ev.ite (fun c => Ev.val ?_) (fun c => ?_)
 · rw [decide_eq_false (by omega)]; rfl
 rw [decide_eq_true (by omega)]
 exact spec_pzGood.ev_l l [] (by simp <;> omega)
theorem idxO_ev {α : Type} (p : Nat → α → Option Bool) (P : α → Bool) (hp : ∀ x, Ev (fun k => p k x) (P x)) : ∀ (l : List α) (i : Int), 0 ≤ i → ∃ r, Ev (fun k => idxO (p k) l i) r ∧ decide (0 ≤ r) = l.any P
 | [], i, hi => ⟨-1, Ev.val rfl, rfl⟩
 | x :: s, i, hi => by
  obtain ⟨r, h1, h2⟩ := idxO_ev p P hp s (i + 1) (by omega)
  cases c : P x with
  | true => exact ⟨i, Ev.bind (hp x) (Ev.pos c (Ev.val rfl)), by rw [List.any_cons, c]; simp [hi]⟩
  | false => exact ⟨r, Ev.bind (hp x) (Ev.neg (by simp [c]) h1), by rw [List.any_cons, c, h2]; rfl⟩
theorem impl_IsPuzzle_1.ev (k a b : Int) : Ev (fun n => impl_IsPuzzle_1.f n k a b) (!clueB k a b) := by
 unfold impl_IsPuzzle_1.f
 exact Ev.bind (impl_IsClue.ev k a b) (Ev.val rfl)
theorem impl_IsPuzzle.ev (l : List S58) : Ev (fun k => impl_IsPuzzle.f k l) (puzzleB l) := by
 unfold impl_IsPuzzle.f puzzleB
 obtain ⟨r, h1, h2⟩ := idxO_ev (fun k (x : S58) => impl_IsPuzzle_1.f k x.f0 x.f1 x.f2) (fun x => !clueB x.f0 x.f1 x.f2) (fun x => impl_IsPuzzle_1.ev _ _ _) l 0 (by omega)
 refine Ev.ite (fun c => Ev.bind h1 (Ev.val ?_)) (fun c => Ev.val ?_)
 · rw [h2, decide_eq_true (by omega), List.any_eq_not_all_not]; simp
 rw [decide_eq_false (by omega)]; rfl
theorem impl_ArePieces.ev (l : List Int) (hl : l.length ≤ 9223372036854775806) : Ev (fun k => impl_ArePieces.f k l) (piGoodB l) := by
 unfold impl_ArePieces.f
 refine Ev.ite (fun h => ?_) (fun h => ?_)
 · refine Ev.bindc (impl_areWithin.val l 1 10000) ?_
   refine Ev.ite (fun c => ?_) (fun c => Ev.val ?_)
   · refine Ev.bind (slices_IsSorted_int_int.ev l hl) (Ev.val ?_)
     unfold piGoodB
     rw [decide_eq_true (by omega), c]; simp
   unfold piGoodB
   rw [Bool.not_eq_true] at c
   rw [c]; simp
 refine Ev.val ?_
 unfold piGoodB
 rw [decide_eq_false (by omega)]; rfl
def addClueB (l : List S58) (a b c : Int) : List S58 × Bool := if puzzleB l = true ∧ clueB a b c = true ∧ l.length ≠ 6 then (l ++ [⟨a, b, c⟩], true) else ([], false)
theorem addClueB_length (l : List S58) (a b c : Int) : (addClueB l a b c).1.length ≤ 7 := by
 unfold addClueB
 split
 · rename_i h
   have : l.length ≤ 6 := by have := h.1; unfold puzzleB at this; simp at this; exact this.1
   simp; omega
 simp
theorem spec_AddClue.ev (l : List S58) (a b c : Int) (hl : (l.length : Int) ≤ 1048576) : Ev (fun k => spec_AddClue.f k l a b c) (addClueB l a b c) := by
 unfold spec_AddClue.f addClueB
 refine Ev.bind (spec_pzGood.ev l) (Ev.ite (fun h1 => Ev.bind (spec_pzClue.ev a b c) (Ev.ite (fun h2 => Ev.ite (fun h3 => Ev.val ?_) (fun h3 => ?_)) (fun h2 => Ev.val ?_))) (fun h1 => Ev.val ?_))
 · rw [if_neg (by intro h; omega)]
 · rw [if_pos ⟨h1, h2, by omega⟩]
   simp only [Option.bind_some, List.nil_append]
   rw [if_pos (by simp; omega), if_pos (by simp; omega)]
   exact Ev.val rfl
 · rw [if_neg (by intro h; exact h2 h.2.1)]
 rw [if_neg (by intro h; exact h1 h.1)]
theorem impl_AddClue.ev (l : List S58) (a b c : Int) (hl : (l.length : Int) ≤ 1048576) : Ev (fun k => impl_AddClue.f k l a b c) (addClueB l a b c) := by
 unfold impl_AddClue.f addClueB
 refine Ev.bind (impl_IsPuzzle.ev l) (Ev.ite (fun h1 => Ev.bind (impl_IsClue.ev a b c) (Ev.ite (fun h2 => Ev.ite (fun h3 => Ev.val ?_) (fun h3 => ?_)) (fun h2 => Ev.val ?_))) (fun h1 => Ev.val ?_))
 · rw [if_neg (by intro h; omega)]
 · rw [if_pos ⟨h1, h2, by omega⟩]
   rw [impl_Clue_223.f, if_pos (by omega)]
   simp only [Option.bind_some]
   rw [if_pos (by simp; omega)]
   exact Ev.val rfl
 · rw [if_neg (by intro h; exact h2 h.2.1)]
 rw [if_neg (by intro h; exact h1 h.1)]
theorem puzzleB_length {l : List S58} (h : puzzleB l = true) : l.length ≤ 6 := by unfold puzzleB at h; simp at h; exact h.1
theorem spec_pzWithout.val (l : List S58) (k : Int) (h0 : 0 ≤ k) (h1 : k < l.length) (hl : l.length ≤ 1000000) : spec_pzWithout.f l k = some (l.eraseIdx k.toNat) := by
 unfold spec_pzWithout.f
 simp only [Option.bind_some, List.nil_append]
 rw [if_pos h0, if_pos (by omega), if_pos (by simp <;> omega), w64 (by omega) (by omega), if_pos (by omega), if_pos (by omega), if_pos (by simp <;> omega), List.eraseIdx_eq_take_drop_succ, show (k + 1).toNat = k.toNat + 1 by omega]
theorem impl_dropped.val (l : List S58) (k : Int) (h0 : 0 ≤ k) (h1 : k < l.length) (hl : l.length ≤ 1000000) : impl_dropped.f l k = some (l.eraseIdx k.toNat) := by
 unfold impl_dropped.f; rw [if_pos h0, if_pos h1, if_pos hl]
def dropClueB (l : List S58) (k : Int) : List S58 × Bool := if puzzleB l = true ∧ 0 ≤ k ∧ k < l.length then (l.eraseIdx k.toNat, true) else ([], false)
theorem dropClueB_length (l : List S58) (k : Int) : (dropClueB l k).1.length ≤ 7 := by
 unfold dropClueB
 split
 · rename_i h
   have : l.length ≤ 6 := by have := h.1; unfold puzzleB at this; simp at this; exact this.1
   rw [List.length_eraseIdx_of_lt (by omega)]; show l.length - 1 ≤ 7; omega
 simp
theorem inB_iff (a b c : Int) : inB a b c = true ↔ b ≤ a ∧ a ≤ c := by simp [inB]
theorem spec_DropClue.ev (l : List S58) (k : Int) : Ev (fun n => spec_DropClue.f n l k) (dropClueB l k) := by
 unfold spec_DropClue.f dropClueB
 refine Ev.bind (spec_pzGood.ev l) (Ev.ite (fun h1 => ?_) (fun h1 => Ev.val (by rw [if_neg (fun h => h1 h.1)])))
 have hl := puzzleB_length h1
 refine Ev.bindc (spec_l1In.valB _ _ _) ?_
 rw [w64 (by omega) (by omega)]
 refine Ev.ite (fun h2 => ?_) (fun h2 => Ev.val ?_)
 · rw [inB_iff] at h2
   refine Ev.bindc (spec_pzWithout.val l k (by omega) (by omega) (by omega)) (Ev.val ?_)
   rw [if_pos ⟨h1, by omega, by omega⟩]
 rw [inB_iff] at h2
 rw [if_neg (fun h => h2 ⟨by omega, by omega⟩)]
theorem impl_DropClue.ev (l : List S58) (k : Int) : Ev (fun n => impl_DropClue.f n l k) (dropClueB l k) := by
 unfold impl_DropClue.f dropClueB
 refine Ev.bind (impl_IsPuzzle.ev l) (Ev.ite (fun h1 => ?_) (fun h1 => Ev.val (by rw [if_neg (fun h => h1 h.1)])))
 have hl := puzzleB_length h1
 refine Ev.bindc (impl_within.valB _ _ _) ?_
 rw [w64 (by omega) (by omega)]
 refine Ev.ite (fun h2 => ?_) (fun h2 => Ev.val ?_)
 · rw [inB_iff] at h2
   refine Ev.bindc (impl_dropped.val l k (by omega) (by omega) (by omega)) (Ev.val ?_)
   rw [if_pos ⟨h1, by omega, by omega⟩]
 rw [inB_iff] at h2
 rw [if_neg (fun h => h2 ⟨by omega, by omega⟩)]
/-- A table of N values. -/
def tab (N : Nat) (f : Int → Int) : List Int := (List.range N).map fun (i : Nat) => f (i : Int)
theorem tab_length (N : Nat) (f : Int → Int) : (tab N f).length = N := by simp [tab]
theorem rd_tab (N : Nat) (f : Int → Int) (i : Int) (h0 : 0 ≤ i) (h1 : i < N) : rd (tab N f) i = f i := by
 obtain ⟨n, rfl⟩ := Int.eq_ofNat_of_zero_le h0
 rw [rd_eq _ _ (by rw [tab_length]; omega)]
 simp [tab]
theorem tab_congr (N : Nat) (f g : Int → Int) (h : ∀ i : Int, 0 ≤ i → i < N → f i = g i) : tab N f = tab N g := by
 unfold tab
 apply List.map_congr_left
 intro i hi
 exact h i (by omega) (by have := List.mem_range.1 hi; omega)
theorem tab_set (N : Nat) (f : Int → Int) (i : Int) (v : Int) (h0 : 0 ≤ i) : (tab N f).set i.toNat v = tab N (fun j => if j = i then v else f j) := by
 obtain ⟨n, rfl⟩ := Int.eq_ofNat_of_zero_le h0
 apply List.ext_getElem?
 intro j
 unfold tab
 by_cases hj : j < N
 · by_cases e : n = j
   · subst e
     simp [hj]
   rw [List.getElem?_set_ne (by simpa using e)]
   simp [hj]
   omega
 rw [List.getElem?_eq_none (by simp; omega), List.getElem?_eq_none (by simp; omega)]
/-- How many ways there are to make s of some of the pieces. -/
def cnt : List Int → Int → Int
 | [], s => if s = 0 then 1 else 0
 | x :: t, s => cnt t s + cnt t (s - x)
theorem cnt_snoc (l : List Int) (n s : Int) : cnt (l ++ [n]) s = cnt l s + cnt l (s - n) := by
 induction l generalizing s with
 | nil => simp [cnt]
 | cons x t ih =>
  simp only [List.cons_append, cnt, ih]
  rw [show s - x - n = s - n - x by omega]; omega
theorem cnt_nonneg (l : List Int) (s : Int) : 0 ≤ cnt l s := by
 induction l generalizing s with
 | nil => unfold cnt; split <;> omega
 | cons x t ih => have h1 := ih s; have h2 := ih (s - x); unfold cnt; omega
theorem cnt_le (l : List Int) (s : Int) : cnt l s ≤ 2 ^ l.length := by
 induction l generalizing s with
 | nil => unfold cnt; split <;> simp
 | cons x t ih =>
  have h1 := ih s; have h2 := ih (s - x)
  unfold cnt
  rw [List.length_cons, Int.pow_succ]; omega
theorem cnt_neg (l : List Int) (hl : ∀ x ∈ l, 0 ≤ x) (s : Int) (h : s < 0) : cnt l s = 0 := by
 induction l generalizing s with
 | nil => unfold cnt; rw [if_neg (by omega)]
 | cons x t ih =>
  have hx := hl x (by simp)
  unfold cnt
  rw [ih (fun y hy => hl y (by simp [hy])) s h, ih (fun y hy => hl y (by simp [hy])) (s - x) (by omega)]; rfl
theorem sum_nonneg (l : List Int) (hl : ∀ x ∈ l, 0 ≤ x) : 0 ≤ l.sum := by
 induction l with
 | nil => simp
 | cons x t ih =>
  have hx := hl x (by simp)
  have := ih (fun y hy => hl y (by simp [hy]))
  rw [List.sum_cons]; omega
theorem cnt_above (l : List Int) (hl : ∀ x ∈ l, 0 ≤ x) (s : Int) (h : l.sum < s) : cnt l s = 0 := by
 induction l generalizing s with
 | nil => unfold cnt; rw [if_neg (by simp at h; omega)]
 | cons x t ih =>
  have hx := hl x (by simp)
  rw [List.sum_cons] at h
  unfold cnt
  rw [ih (fun y hy => hl y (by simp [hy])) s (by omega), ih (fun y hy => hl y (by simp [hy])) (s - x) (by omega)]; rfl
theorem pow_le_20 {n : Nat} (h : n ≤ 20) : (2 : Int) ^ n ≤ 1048576 := by
 have : (2 : Nat) ^ n ≤ 2 ^ 20 := Nat.pow_le_pow_right (by omega) h
 have e : ((2 : Int) ^ n) = ((2 ^ n : Nat) : Int) := by simp
 rw [e]; omega
theorem sum_le (l : List Int) (B : Int) (hl : ∀ x ∈ l, x ≤ B) : l.sum ≤ l.length * B := by
 induction l with
 | nil => simp
 | cons x t ih =>
  have hx := hl x (by simp)
  have := ih (fun y hy => hl y (by simp [hy]))
  rw [List.sum_cons, List.length_cons]
  have e : ((t.length + 1 : Nat) : Int) * B = t.length * B + B := by
   rw [show ((t.length + 1 : Nat) : Int) = (t.length : Int) + 1 by omega, Int.add_mul]; omega
  omega
/-- Up to where all sums can be made of pieces in order. -/
def runL : List Int → Int → Int
 | [], a => a
 | x :: t, a => if x > a + 1 then a else runL t (a + x)
theorem impl_total.ev_l (s : List Int) : ∀ (p : List Int) (a : Int), p.length + s.length ≤ 1000000000 → 0 ≤ a → (∀ x ∈ s, 0 ≤ x) → a + s.sum ≤ 1000000000 → Ev (fun k => impl_total.l0 k a (p ++ s) ((p ++ s).length : Int) (p.length : Int)) (a + s.sum) := by
 induction s with
 | nil =>
  intro p a hp h0 hs hsum
  refine Ev.step (f := fun _ => some a) (fun k => ?_) (Ev.val (by simp))
  rw [impl_total.l0, if_neg (by simp)]
 | cons x s ih =>
  intro p a hp h0 hs hsum
  simp only [List.length_cons] at hp
  rw [List.sum_cons] at hsum
  have hx := hs x (by simp)
  have hs' : ∀ y ∈ s, 0 ≤ y := fun y hy => hs y (by simp [hy])
  have hsn := sum_nonneg s hs'
  have h := ih (p ++ [x]) (a + x) (by simp <;> omega) (by omega) hs' (by omega)
  refine Ev.step (f := fun k => impl_total.l0 k (a + x) ((p ++ [x]) ++ s) (((p ++ [x]) ++ s).length : Int) ((p ++ [x]).length : Int)) (fun k => ?_) (Ev.eq h (by rw [List.sum_cons]; omega))
  rw [impl_total.l0, if_pos (by simp <;> omega), if_pos (by omega), if_pos (by simp <;> omega), rd_app, w64 (n := a + x) (by omega) (by omega), w64 (by omega) (by omega)]
  simp
theorem impl_total.ev (l : List Int) (hl : l.length ≤ 1000000000) (h0 : ∀ x ∈ l, 0 ≤ x) (hs : l.sum ≤ 1000000000) : Ev (fun k => impl_total.f k l) l.sum := by
 have h := impl_total.ev_l l [] 0 (by simpa using hl) (by omega) h0 (by omega)
 exact Ev.eq h (by omega)
theorem spec_piSum.ev_l (s : List Int) : ∀ (p : List Int) (a : Int), p.length + s.length ≤ 1000000000 → 0 ≤ a → (∀ x ∈ s, 0 ≤ x) → a + s.sum ≤ 1000000000 → Ev (fun k => spec_piSum.l0 k a (p ++ s) ((p ++ s).length : Int) (p.length : Int)) (a + s.sum) := by
 induction s with
 | nil =>
  intro p a hp h0 hs hsum
  refine Ev.step (f := fun _ => some a) (fun k => ?_) (Ev.val (by simp))
  rw [spec_piSum.l0, if_neg (by simp)]
 | cons x s ih =>
  intro p a hp h0 hs hsum
  simp only [List.length_cons] at hp
  rw [List.sum_cons] at hsum
  have hx := hs x (by simp)
  have hs' : ∀ y ∈ s, 0 ≤ y := fun y hy => hs y (by simp [hy])
  have hsn := sum_nonneg s hs'
  have h := ih (p ++ [x]) (a + x) (by simp <;> omega) (by omega) hs' (by omega)
  refine Ev.step (f := fun k => spec_piSum.l0 k (a + x) ((p ++ [x]) ++ s) (((p ++ [x]) ++ s).length : Int) ((p ++ [x]).length : Int)) (fun k => ?_) (Ev.eq h (by rw [List.sum_cons]; omega))
  rw [spec_piSum.l0, if_pos (by simp <;> omega), if_pos (by omega), if_pos (by simp <;> omega), rd_app, w64 (n := a + x) (by omega) (by omega), w64 (by omega) (by omega)]
  simp
theorem spec_piSum.ev (l : List Int) (hl : l.length ≤ 1000000000) (h0 : ∀ x ∈ l, 0 ≤ x) (hs : l.sum ≤ 1000000000) : Ev (fun k => spec_piSum.f k l) l.sum := by
 have h := spec_piSum.ev_l l [] 0 (by simpa using hl) (by omega) h0 (by omega)
 exact Ev.eq h (by omega)
theorem impl_run.ev_l (s : List Int) : ∀ (p : List Int) (a : Int), p.length + s.length ≤ 1000000000 → 0 ≤ a → (∀ x ∈ s, 0 ≤ x) → a + s.sum ≤ 1000000000 → Ev (fun k => impl_run.l0 k a (p ++ s) ((p ++ s).length : Int) (p.length : Int)) (runL s a) := by
 induction s with
 | nil =>
  intro p a hp h0 hs hsum
  refine Ev.step (f := fun _ => some a) (fun k => ?_) (Ev.val (by simp [runL]))
  rw [impl_run.l0, if_neg (by simp)]
 | cons x s ih =>
  intro p a hp h0 hs hsum
  simp only [List.length_cons] at hp
  rw [List.sum_cons] at hsum
  have hx := hs x (by simp)
  have hs' : ∀ y ∈ s, 0 ≤ y := fun y hy => hs y (by simp [hy])
  have hsn := sum_nonneg s hs'
  have h := ih (p ++ [x]) (a + x) (by simp <;> omega) (by omega) hs' (by omega)
  by_cases c : x > a + 1
  · refine Ev.step (f := fun _ => some a) (fun k => ?_) (Ev.val (by rw [runL, if_pos c]))
    rw [impl_run.l0, if_pos (by simp <;> omega), if_pos (by omega), if_pos (by simp <;> omega), rd_app, w64 (n := a + 1) (by omega) (by omega), if_pos c]
  refine Ev.step (f := fun k => impl_run.l0 k (a + x) ((p ++ [x]) ++ s) (((p ++ [x]) ++ s).length : Int) ((p ++ [x]).length : Int)) (fun k => ?_) (Ev.eq h (by rw [runL, if_neg c]))
  rw [impl_run.l0, if_pos (by simp <;> omega), if_pos (by omega), if_pos (by simp <;> omega), rd_app, w64 (n := a + 1) (by omega) (by omega), if_neg c, w64 (n := a + x) (by omega) (by omega), w64 (by omega) (by omega)]
  simp
theorem impl_run.ev (l : List Int) (hl : l.length ≤ 1000000000) (h0 : ∀ x ∈ l, 0 ≤ x) (hs : l.sum ≤ 1000000000) : Ev (fun k => impl_run.f k l) (runL l 0) := by
 exact impl_run.ev_l l [] 0 (by simpa using hl) (by omega) h0 (by omega)
theorem spec_piRun.ev_l (s : List Int) : ∀ (p : List Int) (a : Int), p.length + s.length ≤ 1000000000 → 0 ≤ a → (∀ x ∈ s, 0 ≤ x) → a + s.sum ≤ 1000000000 → Ev (fun k => spec_piRun.l0 k a (p ++ s) ((p ++ s).length : Int) (p.length : Int)) (runL s a) := by
 induction s with
 | nil =>
  intro p a hp h0 hs hsum
  refine Ev.step (f := fun _ => some a) (fun k => ?_) (Ev.val (by simp [runL]))
  rw [spec_piRun.l0, if_neg (by simp)]
 | cons x s ih =>
  intro p a hp h0 hs hsum
  simp only [List.length_cons] at hp
  rw [List.sum_cons] at hsum
  have hx := hs x (by simp)
  have hs' : ∀ y ∈ s, 0 ≤ y := fun y hy => hs y (by simp [hy])
  have hsn := sum_nonneg s hs'
  have h := ih (p ++ [x]) (a + x) (by simp <;> omega) (by omega) hs' (by omega)
  by_cases c : x > a + 1
  · refine Ev.step (f := fun _ => some a) (fun k => ?_) (Ev.val (by rw [runL, if_pos c]))
    rw [spec_piRun.l0, if_pos (by simp <;> omega), if_pos (by omega), if_pos (by simp <;> omega), rd_app, w64 (n := a + 1) (by omega) (by omega), if_pos c]
  refine Ev.step (f := fun k => spec_piRun.l0 k (a + x) ((p ++ [x]) ++ s) (((p ++ [x]) ++ s).length : Int) ((p ++ [x]).length : Int)) (fun k => ?_) (Ev.eq h (by rw [runL, if_neg c]))
  rw [spec_piRun.l0, if_pos (by simp <;> omega), if_pos (by omega), if_pos (by simp <;> omega), rd_app, w64 (n := a + 1) (by omega) (by omega), if_neg c, w64 (n := a + x) (by omega) (by omega), w64 (by omega) (by omega)]
  simp
theorem spec_piRun.ev (l : List Int) (hl : l.length ≤ 1000000000) (h0 : ∀ x ∈ l, 0 ≤ x) (hs : l.sum ≤ 1000000000) : Ev (fun k => spec_piRun.f k l) (runL l 0) := by
 exact spec_piRun.ev_l l [] 0 (by simpa using hl) (by omega) h0 (by omega)
theorem impl_ways.ev_in {R : List Int} (N : Nat) (hN : N ≤ 1000000001) (p : Int) (hp : 1 ≤ p) (f : Int → Int) (hf : ∀ j, 0 ≤ f j ∧ f j ≤ 2000000000) (L : List Int) (n i : Int) (next : Ev (fun k => impl_ways.l0 k (tab N fun j => if p ≤ j then f j + f (j - p) else f j) L n (wrap64 (i + 1))) R) :
 ∀ (d : Nat) (s : Int), s < N → -1 ≤ s → s + 1 = d → Ev (fun k => impl_ways.l1 k (tab N fun j => if p ≤ j ∧ s < j then f j + f (j - p) else f j) p s L n i) R := by
 intro d
 induction d with
 | zero =>
  intro s h1 h2 h3
  refine Ev.step (fun k => ?_) next
  rw [impl_ways.l1, if_neg (by omega)]
  congr 1
  apply tab_congr
  intro j hj0 hj1
  by_cases c : p ≤ j
  · rw [if_pos ⟨c, by omega⟩, if_pos c]
  rw [if_neg (by omega), if_neg c]
 | succ d ih =>
  intro s h1 h2 h3
  by_cases c : s ≥ p
  · have h := ih (s - 1) (by omega) (by omega) (by omega)
    refine Ev.step (fun k => ?_) h
    rw [impl_ways.l1, if_pos c, if_pos (by omega), if_pos (by rw [tab_length]; omega), w64 (n := s - p) (by omega) (by omega), if_pos (by omega), if_pos (by rw [tab_length]; omega), rd_tab _ _ _ (by omega) (by omega), rd_tab _ _ _ (by omega) (by omega)]
    have f1 := hf s
    have f2 := hf (s - p)
    rw [if_neg (by omega), if_neg (by omega), w64 (by omega) (by omega), w64 (n := s - 1) (by omega) (by omega), tab_set _ _ _ _ (by omega)]
    congr 1
    apply tab_congr
    intro j hj0 hj1
    by_cases e : j = s
    · subst e; rw [if_pos rfl, if_pos ⟨by omega, by omega⟩]
    rw [if_neg e]
    by_cases e2 : p ≤ j ∧ s < j
    · rw [if_pos e2, if_pos ⟨by omega, by omega⟩]
    rw [if_neg e2, if_neg (by omega)]
  refine Ev.step (fun k => ?_) next
  rw [impl_ways.l1, if_neg c]
  congr 1
  apply tab_congr
  intro j hj0 hj1
  by_cases c : p ≤ j
  · rw [if_pos ⟨c, by omega⟩, if_pos c]
  rw [if_neg (by omega), if_neg c]
theorem impl_ways.ev_l (N : Nat) (hN : N ≤ 1000000001) (s : List Int) : ∀ (q : List Int), q.length + s.length ≤ 20 → (∀ x ∈ s, 1 ≤ x) → (∀ x ∈ q, 1 ≤ x) → Ev (fun k => impl_ways.l0 k (tab N (cnt q)) (q ++ s) ((q ++ s).length : Int) (q.length : Int)) (tab N (cnt (q ++ s))) := by
 induction s with
 | nil =>
  intro q hq hs hq1
  refine Ev.step (f := fun _ => some (tab N (cnt q))) (fun k => ?_) (Ev.val (by simp))
  rw [impl_ways.l0, if_neg (by simp)]
 | cons x s ih =>
  intro q hq hs hq1
  simp only [List.length_cons] at hq
  have h := ih (q ++ [x]) (by simp <;> omega) (fun y hy => hs y (by simp [hy])) (fun y hy => (List.mem_append.1 hy).elim (hq1 y) (fun h => by simp at h; rw [h]; exact hs x (by simp)))
  have hx := hs x (by simp)
  have hcn : ∀ j, cnt q j ≤ 1048576 := fun j => Int.le_trans (cnt_le q j) (pow_le_20 (by omega))
  have e : (tab N fun j => if x ≤ j then cnt q j + cnt q (j - x) else cnt q j) = tab N (cnt (q ++ [x])) := by
   apply tab_congr
   intro j hj0 hj1
   rw [cnt_snoc]
   by_cases c : x ≤ j
   · rw [if_pos c]
   rw [if_neg c, cnt_neg q (fun y hy => by have := hq1 y hy; omega) (j - x) (by omega)]; omega
  have hin := impl_ways.ev_in (R := tab N (cnt (q ++ x :: s))) N hN x hx (cnt q) (fun j => ⟨cnt_nonneg q j, by have := hcn j; omega⟩) (q ++ x :: s) ((q ++ x :: s).length : Int) (q.length : Int) (by
   rw [e, w64 (by omega) (by omega)]
   have := h
   simpa using this) N ((N : Int) - 1) (by omega) (by omega) (by omega)
  refine Ev.step (fun k => ?_) hin
  rw [impl_ways.l0, if_pos (by simp <;> omega), if_pos (by omega), if_pos (by simp <;> omega), rd_app, tab_length, w64 (n := (N : Int) - 1) (by omega) (by omega)]
  congr 1
  apply tab_congr
  intro j hj0 hj1
  rw [if_neg (by omega)]
theorem impl_ways.ev (l : List Int) (hl : l.length ≤ 20) (h1 : ∀ x ∈ l, 1 ≤ x) (hs : l.sum ≤ 1000000000) : Ev (fun k => impl_ways.f k l) (tab (l.sum.toNat + 1) (cnt l)) := by
 have h0 : ∀ x ∈ l, 0 ≤ x := fun x hx => by have := h1 x hx; omega
 have hn := sum_nonneg l h0
 unfold impl_ways.f
 refine Ev.bind (impl_total.ev l (by omega) h0 hs) ?_
 rw [w64 (by omega) (by omega)]
 refine Ev.pos (by omega) (Ev.pos (by omega) ?_)
 simp only [Option.bind_some]
 refine Ev.pos (by simp <;> omega) ?_
 have h := impl_ways.ev_l (l.sum.toNat + 1) (by omega) l [] (by simpa using hl) h1 (by simp)
 refine Ev.congr (fun k => ?_) h
 congr 1
 have e : List.replicate (l.sum + 1).toNat (0 : Int) = tab (l.sum.toNat + 1) (fun _ => 0) := by
  rw [show (l.sum + 1).toNat = l.sum.toNat + 1 by omega]
  apply List.ext_getElem
  · simp [tab]
  intro i h1 h2; simp [tab]
 rw [e, tab_set _ _ _ _ (by omega)]
 apply tab_congr
 intro j hj0 hj1
 simp [cnt]
theorem spec_piWays.ev_in {R : List Int} (N : Nat) (hN : N ≤ 1000000001) (p : Int) (hp : 1 ≤ p) (f : Int → Int) (hf : ∀ j, 0 ≤ f j ∧ f j ≤ 2000000000) (L : List Int) (n i : Int) (next : Ev (fun k => spec_piWays.l0 k (tab N fun j => if p ≤ j then f j + f (j - p) else f j) L n (wrap64 (i + 1))) R) :
 ∀ (d : Nat) (s : Int), s < N → -1 ≤ s → s + 1 = d → Ev (fun k => spec_piWays.l1 k (tab N fun j => if p ≤ j ∧ s < j then f j + f (j - p) else f j) p s L n i) R := by
 intro d
 induction d with
 | zero =>
  intro s h1 h2 h3
  refine Ev.step (fun k => ?_) next
  rw [spec_piWays.l1, if_neg (by omega)]
  congr 1
  apply tab_congr
  intro j hj0 hj1
  by_cases c : p ≤ j
  · rw [if_pos ⟨c, by omega⟩, if_pos c]
  rw [if_neg (by omega), if_neg c]
 | succ d ih =>
  intro s h1 h2 h3
  by_cases c : s ≥ p
  · have h := ih (s - 1) (by omega) (by omega) (by omega)
    refine Ev.step (fun k => ?_) h
    rw [spec_piWays.l1, if_pos c, if_pos (by omega), if_pos (by rw [tab_length]; omega), w64 (n := s - p) (by omega) (by omega), if_pos (by omega), if_pos (by rw [tab_length]; omega), rd_tab _ _ _ (by omega) (by omega), rd_tab _ _ _ (by omega) (by omega)]
    have f1 := hf s
    have f2 := hf (s - p)
    rw [if_neg (by omega), if_neg (by omega), w64 (by omega) (by omega), w64 (n := s - 1) (by omega) (by omega), tab_set _ _ _ _ (by omega)]
    congr 1
    apply tab_congr
    intro j hj0 hj1
    by_cases e : j = s
    · subst e; rw [if_pos rfl, if_pos ⟨by omega, by omega⟩]
    rw [if_neg e]
    by_cases e2 : p ≤ j ∧ s < j
    · rw [if_pos e2, if_pos ⟨by omega, by omega⟩]
    rw [if_neg e2, if_neg (by omega)]
  refine Ev.step (fun k => ?_) next
  rw [spec_piWays.l1, if_neg c]
  congr 1
  apply tab_congr
  intro j hj0 hj1
  by_cases c : p ≤ j
  · rw [if_pos ⟨c, by omega⟩, if_pos c]
  rw [if_neg (by omega), if_neg c]
theorem spec_piWays.ev_l (N : Nat) (hN : N ≤ 1000000001) (s : List Int) : ∀ (q : List Int), q.length + s.length ≤ 20 → (∀ x ∈ s, 1 ≤ x) → (∀ x ∈ q, 1 ≤ x) → Ev (fun k => spec_piWays.l0 k (tab N (cnt q)) (q ++ s) ((q ++ s).length : Int) (q.length : Int)) (tab N (cnt (q ++ s))) := by
 induction s with
 | nil =>
  intro q hq hs hq1
  refine Ev.step (f := fun _ => some (tab N (cnt q))) (fun k => ?_) (Ev.val (by simp))
  rw [spec_piWays.l0, if_neg (by simp)]
 | cons x s ih =>
  intro q hq hs hq1
  simp only [List.length_cons] at hq
  have h := ih (q ++ [x]) (by simp <;> omega) (fun y hy => hs y (by simp [hy])) (fun y hy => (List.mem_append.1 hy).elim (hq1 y) (fun h => by simp at h; rw [h]; exact hs x (by simp)))
  have hx := hs x (by simp)
  have hcn : ∀ j, cnt q j ≤ 1048576 := fun j => Int.le_trans (cnt_le q j) (pow_le_20 (by omega))
  have e : (tab N fun j => if x ≤ j then cnt q j + cnt q (j - x) else cnt q j) = tab N (cnt (q ++ [x])) := by
   apply tab_congr
   intro j hj0 hj1
   rw [cnt_snoc]
   by_cases c : x ≤ j
   · rw [if_pos c]
   rw [if_neg c, cnt_neg q (fun y hy => by have := hq1 y hy; omega) (j - x) (by omega)]; omega
  have hin := spec_piWays.ev_in (R := tab N (cnt (q ++ x :: s))) N hN x hx (cnt q) (fun j => ⟨cnt_nonneg q j, by have := hcn j; omega⟩) (q ++ x :: s) ((q ++ x :: s).length : Int) (q.length : Int) (by
   rw [e, w64 (by omega) (by omega)]
   have := h
   simpa using this) N ((N : Int) - 1) (by omega) (by omega) (by omega)
  refine Ev.step (fun k => ?_) hin
  rw [spec_piWays.l0, if_pos (by simp <;> omega), if_pos (by omega), if_pos (by simp <;> omega), rd_app, tab_length, w64 (n := (N : Int) - 1) (by omega) (by omega)]
  congr 1
  apply tab_congr
  intro j hj0 hj1
  rw [if_neg (by omega)]
theorem spec_piWays.ev (l : List Int) (hl : l.length ≤ 20) (h1 : ∀ x ∈ l, 1 ≤ x) (hs : l.sum ≤ 1000000000) : Ev (fun k => spec_piWays.f k l) (tab (l.sum.toNat + 1) (cnt l)) := by
 have h0 : ∀ x ∈ l, 0 ≤ x := fun x hx => by have := h1 x hx; omega
 have hn := sum_nonneg l h0
 unfold spec_piWays.f
 refine Ev.bind (spec_piSum.ev l (by omega) h0 hs) ?_
 rw [w64 (by omega) (by omega)]
 refine Ev.pos (by omega) (Ev.pos (by omega) ?_)
 simp only [Option.bind_some]
 refine Ev.pos (by simp <;> omega) ?_
 have h := spec_piWays.ev_l (l.sum.toNat + 1) (by omega) l [] (by simpa using hl) h1 (by simp)
 refine Ev.congr (fun k => ?_) h
 congr 1
 have e : List.replicate (l.sum + 1).toNat (0 : Int) = tab (l.sum.toNat + 1) (fun _ => 0) := by
  rw [show (l.sum + 1).toNat = l.sum.toNat + 1 by omega]
  apply List.ext_getElem
  · simp [tab]
  intro i h1 h2; simp [tab]
 rw [e, tab_set _ _ _ _ (by omega)]
 apply tab_congr
 intro j hj0 hj1
 simp [cnt]
theorem spec_piMake.ev (l : List Int) (a : Int) (hl : l.length ≤ 20) (h1 : ∀ x ∈ l, 1 ≤ x) (hs : l.sum ≤ 1000000000) (ha : 0 ≤ a) : Ev (fun k => spec_piMake.f k l a) (cnt l a) := by
 have h0 : ∀ x ∈ l, 0 ≤ x := fun x hx => by have := h1 x hx; omega
 have hn := sum_nonneg l h0
 unfold spec_piMake.f
 refine Ev.bind (spec_piWays.ev l hl h1 hs) (Ev.ite (fun c => Ev.val ?_) (fun c => Ev.pos ha (Ev.pos (by omega) (Ev.val ?_))))
 · rw [tab_length] at c; rw [cnt_above l h0 a (by omega)]
 rw [tab_length] at c; rw [rd_tab _ _ _ ha (by omega)]
theorem impl_waysOf.ev (l : List Int) (a : Int) (hl : l.length ≤ 20) (h1 : ∀ x ∈ l, 1 ≤ x) (hs : l.sum ≤ 1000000000) (ha : 0 ≤ a) : Ev (fun k => impl_waysOf.f k l a) (cnt l a) := by
 have h0 : ∀ x ∈ l, 0 ≤ x := fun x hx => by have := h1 x hx; omega
 have hn := sum_nonneg l h0
 unfold impl_waysOf.f
 refine Ev.bind (impl_total.ev l (by omega) h0 hs) (Ev.ite (fun c => Ev.val ?_) (fun c => Ev.bind (impl_ways.ev l hl h1 hs) (Ev.pos ha (Ev.pos ?_ (Ev.val ?_)))))
 · rw [cnt_above l h0 a (by omega)]
 · rw [tab_length]; omega
 rw [rd_tab _ _ _ ha (by omega)]
/-- What a clue of a kind tells of pieces. -/
def pzV (kind a : Int) (l : List Int) : Int :=
 if kind = 0 then (l.length : Int) else if kind = 1 then l.sum else if kind = 2 then (if cnt l a < 1 then cnt l a else 1) else if kind = 3 then runL l 0 else if kind = 4 then cnt l a else (l.count a : Int)
theorem spec_pzValue.ev_l (a : Int) (s : List Int) : ∀ (p : List Int) (c : Int), p.length + s.length ≤ 1000000000 → 0 ≤ c → c + s.length ≤ 1000000000 → Ev (fun k => spec_pzValue.l0 k a c (p ++ s) ((p ++ s).length : Int) (p.length : Int)) (c + (s.count a : Int)) := by
 induction s with
 | nil =>
  intro p c hp h0 hs
  refine Ev.step (f := fun _ => some c) (fun k => ?_) (Ev.val (by simp))
  rw [spec_pzValue.l0, if_neg (by simp)]
 | cons x s ih =>
  intro p c hp h0 hs
  simp only [List.length_cons] at hp hs
  by_cases e : x = a
  · have h := ih (p ++ [x]) (c + 1) (by simp <;> omega) (by omega) (by omega)
    refine Ev.step (f := fun k => spec_pzValue.l0 k a (c + 1) ((p ++ [x]) ++ s) (((p ++ [x]) ++ s).length : Int) ((p ++ [x]).length : Int)) (fun k => ?_) (Ev.eq h (by rw [List.count_cons, if_pos (by simpa using e)]; omega))
    rw [spec_pzValue.l0, if_pos (by simp <;> omega), if_pos (by omega), if_pos (by simp <;> omega), rd_app, if_pos e, w64 (n := c + 1) (by omega) (by omega), w64 (by omega) (by omega)]
    simp
  have h := ih (p ++ [x]) c (by simp <;> omega) (by omega) (by omega)
  refine Ev.step (f := fun k => spec_pzValue.l0 k a c ((p ++ [x]) ++ s) (((p ++ [x]) ++ s).length : Int) ((p ++ [x]).length : Int)) (fun k => ?_) (Ev.eq h (by rw [List.count_cons, if_neg (by simpa using e)]; omega))
  rw [spec_pzValue.l0, if_pos (by simp <;> omega), if_pos (by omega), if_pos (by simp <;> omega), rd_app, if_neg e, w64 (by omega) (by omega)]
  simp
theorem spec_pzValue.ev (kind a : Int) (l : List Int) (hl : l.length ≤ 20) (h1 : ∀ x ∈ l, 1 ≤ x) (hs : l.sum ≤ 1000000000) (ha : 0 ≤ a ∨ ¬ (kind = 2 ∨ kind = 4)) : Ev (fun k => spec_pzValue.f k kind a l) (pzV kind a l) := by
 have h0 : ∀ x ∈ l, 0 ≤ x := fun x hx => by have := h1 x hx; omega
 unfold spec_pzValue.f pzV
 by_cases c0 : kind = 0
 · rw [if_pos c0]; exact Ev.pos c0 (Ev.val rfl)
 rw [if_neg c0]; refine Ev.neg c0 ?_
 by_cases c1 : kind = 1
 · rw [if_pos c1]; exact Ev.pos c1 (Ev.bind (spec_piSum.ev l (by omega) h0 hs) (Ev.val rfl))
 rw [if_neg c1]; refine Ev.neg c1 ?_
 by_cases c2 : kind = 2
 · rw [if_pos c2]; refine Ev.pos c2 (Ev.bind (spec_piMake.ev l a hl h1 hs (by omega)) (Ev.bindc (x := if cnt l a < 1 then cnt l a else 1) ?_ (Ev.val rfl)))
   unfold spec_l1Least.f
   by_cases c : 1 < cnt l a
   · rw [if_pos c, if_neg (by omega)]
   rw [if_neg c]
   by_cases d : cnt l a < 1
   · rw [if_pos d]
   rw [if_neg d]; congr 1; omega
 rw [if_neg c2]; refine Ev.neg c2 ?_
 by_cases c3 : kind = 3
 · rw [if_pos c3]; exact Ev.pos c3 (Ev.bind (spec_piRun.ev l (by omega) h0 hs) (Ev.val rfl))
 rw [if_neg c3]; refine Ev.neg c3 ?_
 by_cases c4 : kind = 4
 · rw [if_pos c4]; exact Ev.pos c4 (Ev.bind (spec_piMake.ev l a hl h1 hs (by omega)) (Ev.val rfl))
 rw [if_neg c4]; refine Ev.neg c4 ?_
 have h := spec_pzValue.ev_l a l [] 0 (by simp; omega) (by omega) (by omega)
 exact Ev.eq h (by omega)
theorem spec_pzAlone.val (k : Int) : spec_pzAlone.f k = some (decide (k < 2 ∨ k = 3)) := by
 unfold spec_pzAlone.f
 by_cases c : k < 2
 · rw [if_pos c]; simp [c]
 rw [if_neg c]; simp only [c, false_or]; rfl
def pzFitsB (kind a b : Int) (l : List Int) : Bool := if kind < 2 ∨ kind = 3 then pzV kind 0 l == a else pzV kind a l == b
theorem spec_pzFits.ev (kind a b : Int) (l : List Int) (hl : l.length ≤ 20) (h1 : ∀ x ∈ l, 1 ≤ x) (hs : l.sum ≤ 1000000000) (ha : 0 ≤ a ∨ ¬ (kind = 2 ∨ kind = 4)) : Ev (fun k => spec_pzFits.f k kind a b l) (pzFitsB kind a b l) := by
 unfold spec_pzFits.f pzFitsB
 refine Ev.bindc (spec_pzAlone.val kind) (Ev.ite (fun c => ?_) (fun c => ?_))
 · rw [if_pos (by simpa using c)]
   exact Ev.bind (spec_pzValue.ev kind 0 l hl h1 hs (by omega)) (Ev.val rfl)
 rw [if_neg (by simpa using c)]
 exact Ev.bind (spec_pzValue.ev kind a l hl h1 hs ha) (Ev.val rfl)
def clueL (kind a : Int) (l : List Int) : Int × Int × Int :=
 if kind = 0 then (0, (l.length : Int), 0) else if kind = 1 then (1, l.sum, 0) else if kind = 2 then (2, a, if cnt l a < 1 then cnt l a else 1) else if kind = 3 then (3, runL l 0, 0) else if kind = 4 then (4, a, cnt l a) else (5, a, (l.count a : Int))
theorem impl_clueOf.ev_l (a : Int) (s : List Int) : ∀ (p : List Int) (c : Int), p.length + s.length ≤ 1000000000 → 0 ≤ c → c + s.length ≤ 1000000000 → Ev (fun k => impl_clueOf.l0 k a c (p ++ s) ((p ++ s).length : Int) (p.length : Int)) (5, a, c + (s.count a : Int)) := by
 induction s with
 | nil =>
  intro p c hp h0 hs
  refine Ev.step (f := fun _ => some (5, a, c)) (fun k => ?_) (Ev.val (by simp))
  rw [impl_clueOf.l0, if_neg (by simp)]
 | cons x s ih =>
  intro p c hp h0 hs
  simp only [List.length_cons] at hp hs
  by_cases e : x = a
  · have h := ih (p ++ [x]) (c + 1) (by simp <;> omega) (by omega) (by omega)
    refine Ev.step (f := fun k => impl_clueOf.l0 k a (c + 1) ((p ++ [x]) ++ s) (((p ++ [x]) ++ s).length : Int) ((p ++ [x]).length : Int)) (fun k => ?_) (Ev.eq h (by rw [List.count_cons, if_pos (by simpa using e)]; congr 2; omega))
    rw [impl_clueOf.l0, if_pos (by simp <;> omega), if_pos (by omega), if_pos (by simp <;> omega), rd_app, if_pos e, w64 (n := c + 1) (by omega) (by omega), w64 (by omega) (by omega)]
    simp
  have h := ih (p ++ [x]) c (by simp <;> omega) (by omega) (by omega)
  refine Ev.step (f := fun k => impl_clueOf.l0 k a c ((p ++ [x]) ++ s) (((p ++ [x]) ++ s).length : Int) ((p ++ [x]).length : Int)) (fun k => ?_) (Ev.eq h (by rw [List.count_cons, if_neg (by simpa using e)]; simp))
  rw [impl_clueOf.l0, if_pos (by simp <;> omega), if_pos (by omega), if_pos (by simp <;> omega), rd_app, if_neg e, w64 (by omega) (by omega)]
  simp
theorem mn_one (x : Int) : mn 1 x = if x < 1 then x else 1 := by unfold mn; rfl
theorem impl_clueOf.ev (kind a : Int) (l : List Int) (hl : l.length ≤ 20) (h1 : ∀ x ∈ l, 1 ≤ x) (hs : l.sum ≤ 1000000000) (ha : 0 ≤ a ∨ ¬ (kind = 2 ∨ kind = 4)) : Ev (fun k => impl_clueOf.f k kind a l) (clueL kind a l) := by
 have h0 : ∀ x ∈ l, 0 ≤ x := fun x hx => by have := h1 x hx; omega
 unfold impl_clueOf.f clueL
 by_cases c0 : kind = 0
 · rw [if_pos c0]; exact Ev.pos c0 (Ev.val rfl)
 rw [if_neg c0]; refine Ev.neg c0 ?_
 by_cases c1 : kind = 1
 · rw [if_pos c1]; exact Ev.pos c1 (Ev.bind (impl_total.ev l (by omega) h0 hs) (Ev.val rfl))
 rw [if_neg c1]; refine Ev.neg c1 ?_
 by_cases c2 : kind = 2
 · rw [if_pos c2]; exact Ev.pos c2 (Ev.bind (impl_waysOf.ev l a hl h1 hs (by omega)) (Ev.val (by rw [mn_one])))
 rw [if_neg c2]; refine Ev.neg c2 ?_
 by_cases c3 : kind = 3
 · rw [if_pos c3]; exact Ev.pos c3 (Ev.bind (impl_run.ev l (by omega) h0 hs) (Ev.val rfl))
 rw [if_neg c3]; refine Ev.neg c3 ?_
 by_cases c4 : kind = 4
 · rw [if_pos c4]; exact Ev.pos c4 (Ev.bind (impl_waysOf.ev l a hl h1 hs (by omega)) (Ev.val rfl))
 rw [if_neg c4]; refine Ev.neg c4 ?_
 have h := impl_clueOf.ev_l a l [] 0 (by simp; omega) (by omega) (by omega)
 exact Ev.eq h (by congr 2; omega)
theorem clueB_a {kind a b : Int} (h : clueB kind a b = true) : 0 ≤ a ∨ ¬ (kind = 2 ∨ kind = 4) := by
 unfold clueB at h
 by_cases c2 : kind = 2
 · subst c2; simp [inB] at h; omega
 by_cases c4 : kind = 4
 · subst c4; simp [inB] at h; omega
 omega
/-- For a clue that is one, both ways to ask whether it fits agree. -/
theorem clueL_fits (kind a b : Int) (l : List Int) (h : clueB kind a b = true) : ((clueL kind a l).1 == kind && ((clueL kind a l).2.1 == a && ((clueL kind a l).2.2 == b))) = pzFitsB kind a b l := by
 unfold clueB at h
 unfold clueL pzFitsB pzV
 by_cases c0 : kind = 0
 · subst c0; simp at h ⊢; rw [h.2]; simp
 by_cases c1 : kind = 1
 · subst c1; simp at h ⊢; rw [h.2]; simp
 by_cases c2 : kind = 2
 · subst c2; simp
 by_cases c3 : kind = 3
 · subst c3; simp at h ⊢; rw [h.2]; simp
 by_cases c4 : kind = 4
 · subst c4; simp
 by_cases c5 : kind = 5
 · subst c5; simp
 rw [if_neg c0, if_neg c1, if_neg c3, if_neg c2, if_neg c4, if_neg c5] at h
 cases h
theorem hiddenB_facts {l : List Int} (h : hiddenB l = true) : l.length ≤ 4 ∧ (∀ x ∈ l, 1 ≤ x ∧ x ≤ 6) ∧ l.sum ≤ 24 := by
 unfold hiddenB at h
 simp only [Bool.and_eq_true, decide_eq_true_eq, List.all_eq_true] at h
 have h2 : ∀ x ∈ l, 1 ≤ x ∧ x ≤ 6 := fun x hx => h.1.2 x hx
 have h3 := sum_le l 6 (fun x hx => (h2 x hx).2)
 exact ⟨h.1.1, h2, by omega⟩
def doesFitB (kind a b : Int) (l : List Int) : Bool × Bool := if clueB kind a b = true ∧ hiddenB l = true then (pzFitsB kind a b l, true) else (false, false)
theorem spec_DoesFit.ev (kind a b : Int) (l : List Int) (hl : l.length ≤ 9223372036854775806) : Ev (fun k => spec_DoesFit.f k kind a b l) (doesFitB kind a b l) := by
 unfold spec_DoesFit.f doesFitB
 refine Ev.bind (spec_pzClue.ev kind a b) (Ev.ite (fun h1 => Ev.bind (spec_pzHidden.ev l hl) (Ev.ite (fun h2 => ?_) (fun h2 => Ev.val ?_))) (fun h1 => Ev.val ?_))
 · obtain ⟨f1, f2, f3⟩ := hiddenB_facts h2
   rw [if_pos ⟨h1, h2⟩]
   exact Ev.bind (spec_pzFits.ev kind a b l (by omega) (fun x hx => (f2 x hx).1) (by omega) (clueB_a h1)) (Ev.val rfl)
 · rw [if_neg (fun h => h2 h.2)]
 rw [if_neg (fun h => h1 h.1)]
theorem impl_DoesFit.ev (kind a b : Int) (l : List Int) (hl : l.length ≤ 9223372036854775806) : Ev (fun k => impl_DoesFit.f k kind a b l) (doesFitB kind a b l) := by
 unfold impl_DoesFit.f doesFitB
 refine Ev.bind (impl_IsClue.ev kind a b) (Ev.ite (fun h1 => Ev.bind (impl_IsHidden.ev l hl) (Ev.ite (fun h2 => ?_) (fun h2 => Ev.val ?_))) (fun h1 => Ev.val ?_))
 · obtain ⟨f1, f2, f3⟩ := hiddenB_facts h2
   rw [if_pos ⟨h1, h2⟩]
   refine Ev.bind (impl_clueOf.ev kind a l (by omega) (fun x hx => (f2 x hx).1) (by omega) (clueB_a h1)) (Ev.val ?_)
   rw [clueL_fits kind a b l h1]
 · rw [if_neg (fun h => h2 h.2)]
 rw [if_neg (fun h => h1 h.1)]
theorem hidL_facts : ∀ (d : Nat) (l : List Int) (p : Int), 1 ≤ p → (∀ x ∈ l, 1 ≤ x ∧ x ≤ 6) → ∀ m ∈ hidL d l p, m.length ≤ l.length + d ∧ ∀ x ∈ m, 1 ≤ x ∧ x ≤ 6
 | 0, l, p, hp, hl, m, hm => by
  have e : m = l := List.mem_singleton.1 hm
  rw [e]; exact ⟨Nat.le_refl _, hl⟩
 | d + 1, l, p, hp, hl, m, hm => by
  rcases List.mem_cons.1 hm with e | hm
  · rw [e]; exact ⟨Nat.le_add_right _ _, hl⟩
  obtain ⟨i, hi, hm⟩ := List.mem_flatMap.1 hm
  have hi' := List.mem_range.1 hi
  have h := hidL_facts d (l ++ [p + (i : Int)]) (p + (i : Int)) (by omega) (by
   intro x hx
   rcases List.mem_append.1 hx with hx | hx
   · exact hl x hx
   rw [List.mem_singleton.1 hx]; omega) m hm
  refine ⟨?_, h.2⟩
  have := h.1
  simp only [List.length_append, List.length_singleton] at this
  omega
theorem sum_le6 : ∀ l : List Int, (∀ x ∈ l, 1 ≤ x ∧ x ≤ 6) → l.sum ≤ 6 * (l.length : Int)
 | [], _ => by simp
 | x :: s, h => by
  have h1 := sum_le6 s (fun y hy => h y (List.mem_cons_of_mem _ hy))
  have h2 := h x List.mem_cons_self
  simp only [List.sum_cons, List.length_cons]
  omega
theorem hid_facts {l : List Int} (h : l ∈ hidL 4 [] 1) : l.length ≤ 20 ∧ (∀ x ∈ l, 1 ≤ x) ∧ l.sum ≤ 1000000000 := by
 have f := hidL_facts 4 [] 1 (by omega) (fun x hx => by cases hx) l h
 have s := sum_le6 l f.2
 have := f.1
 simp only [List.length_nil] at this
 exact ⟨by omega, fun x hx => (f.2 x hx).1, by omega⟩
theorem idxO_evM {α : Type} (p : Nat → α → Option Bool) (P : α → Bool) : ∀ (l : List α) (i : Int), (∀ x ∈ l, Ev (fun k => p k x) (P x)) → 0 ≤ i → ∃ r, Ev (fun k => idxO (p k) l i) r ∧ decide (0 ≤ r) = l.any P
 | [], i, _, _ => ⟨-1, Ev.val rfl, rfl⟩
 | x :: s, i, hp, hi => by
  obtain ⟨r, h1, h2⟩ := idxO_evM p P s (i + 1) (fun y hy => hp y (List.mem_cons_of_mem _ hy)) (by omega)
  have hx := hp x List.mem_cons_self
  cases e : P x with
  | true =>
   rw [e] at hx
   exact ⟨i, Ev.bind hx (Ev.pos rfl (Ev.val rfl)), by rw [List.any_cons, e, decide_eq_true hi]; rfl⟩
  | false =>
   rw [e] at hx
   exact ⟨r, Ev.bind hx (Ev.neg (by decide) h1), by rw [List.any_cons, e, h2]; rfl⟩
/-- One number of rounds for all of a list. -/
theorem ev_all {α β : Type} (g : Nat → α → Option β) (Q : α → β → Prop) : ∀ (L : List α), (∀ l ∈ L, ∃ r, Ev (fun k => g k l) r ∧ Q l r) → ∃ K, ∀ k, K ≤ k → ∀ l ∈ L, ∃ r, g k l = some r ∧ Q l r
 | [], _ => ⟨0, fun k _ l hl => by cases hl⟩
 | x :: s, h => by
  obtain ⟨K1, h1⟩ := ev_all g Q s (fun l hl => h l (List.mem_cons_of_mem _ hl))
  obtain ⟨r, ⟨K2, h2⟩, hq⟩ := h x List.mem_cons_self
  refine ⟨K1 + K2, fun k hk l hl => ?_⟩
  rcases List.mem_cons.1 hl with e | hl
  · rw [e]; exact ⟨r, h2 k (by omega), hq⟩
  exact h1 k (by omega) l hl
/-- Hidden pieces that fit all clues. -/
def fitsAll (cs : List S58) (l : List Int) : Bool := cs.all fun c => pzFitsB c.f0 c.f1 c.f2 l
def solB (cs : List S58) : List (List Int) := (hidL 4 [] 1).filter (fitsAll cs)
theorem badS_ev (cs : List S58) (hc : cs.all (fun c => clueB c.f0 c.f1 c.f2) = true) (l : List Int) (hl : l ∈ hidL 4 [] 1) : ∃ r, Ev (fun k => badS k cs l) r ∧ (!(decide (0 ≤ r))) = fitsAll cs l := by
 obtain ⟨h1, h2, h3⟩ := hid_facts hl
 obtain ⟨r, hr, e⟩ := idxO_evM (fun k (x : S58) => (spec_pzFits.f k x.f0 x.f1 x.f2 l).bind fun t => some (!t)) (fun x => !pzFitsB x.f0 x.f1 x.f2 l) cs 0 (fun x hx => Ev.bind (spec_pzFits.ev x.f0 x.f1 x.f2 l h1 h2 h3 (clueB_a (List.all_eq_true.1 hc x hx))) (Ev.val rfl)) (by omega)
 refine ⟨r, hr, ?_⟩
 rw [e]
 unfold fitsAll
 rw [List.all_eq_not_any_not]
theorem badO_ev (cs : List S58) (hc : cs.all (fun c => clueB c.f0 c.f1 c.f2) = true) (l : List Int) (hl : l ∈ hidL 4 [] 1) : ∃ r, Ev (fun k => badO k cs l) r ∧ (!(decide (0 ≤ r))) = fitsAll cs l := by
 obtain ⟨h1, h2, h3⟩ := hid_facts hl
 obtain ⟨r, hr, e⟩ := idxO_evM (fun k (x : S58) => (impl_clueOf.f k x.f0 x.f1 l).bind fun r => some (!(r.1 == x.f0 && (r.2.1 == x.f1 && r.2.2 == x.f2)))) (fun x => !pzFitsB x.f0 x.f1 x.f2 l) cs 0 (fun x hx => Ev.bind (impl_clueOf.ev x.f0 x.f1 l h1 h2 h3 (clueB_a (List.all_eq_true.1 hc x hx))) (Ev.val (by rw [clueL_fits _ _ _ _ (List.all_eq_true.1 hc x hx)]))) (by omega)
 refine ⟨r, hr, ?_⟩
 rw [e]
 unfold fitsAll
 rw [List.all_eq_not_any_not]
theorem spec_pzAll.ev (cs : List S58) (hc : cs.all (fun c => clueB c.f0 c.f1 c.f2) = true) : Ev (fun k => spec_pzAll.f k cs) (solB cs) := by
 obtain ⟨K, h⟩ := ev_all (fun k l => badS k cs l) (fun l r => (!(decide (0 ≤ r))) = fitsAll cs l) (hidL 4 [] 1) (fun l hl => badS_ev cs hc l hl)
 refine ⟨K, fun k hk => ?_⟩
 show spec_pzAll.f k cs = _
 unfold spec_pzAll.f solB
 rw [if_pos]
 · congr 1
   exact List.filter_congr (fun l hl => by
    obtain ⟨r, hr, e⟩ := h k hk l hl
    have hr' : badS k cs l = some r := hr
    unfold fitS
    rw [hr']; exact e)
 exact List.all_eq_true.2 (fun l hl => by
  obtain ⟨r, hr, e⟩ := h k hk l hl
  have hr' : badS k cs l = some r := hr
  rw [hr']; rfl)
theorem impl_solve.ev (cs : List S58) (hc : cs.all (fun c => clueB c.f0 c.f1 c.f2) = true) : Ev (fun k => impl_solve.f k cs) (solB cs) := by
 obtain ⟨K, h⟩ := ev_all (fun k l => badO k cs l) (fun l r => (!(decide (0 ≤ r))) = fitsAll cs l) (hidL 4 [] 1) (fun l hl => badO_ev cs hc l hl)
 refine ⟨K, fun k hk => ?_⟩
 show impl_solve.f k cs = _
 unfold impl_solve.f solB
 rw [if_pos]
 · congr 1
   exact List.filter_congr (fun l hl => by
    obtain ⟨r, hr, e⟩ := h k hk l hl
    have hr' : badO k cs l = some r := hr
    rw [hr']; exact e)
 exact List.all_eq_true.2 (fun l hl => by
  obtain ⟨r, hr, e⟩ := h k hk l hl
  have hr' : badO k cs l = some r := hr
  rw [hr']; rfl)
theorem puzzle_all {cs : List S58} (h : puzzleB cs = true) : cs.all (fun c => clueB c.f0 c.f1 c.f2) = true := by unfold puzzleB at h; simp only [Bool.and_eq_true] at h; exact h.2
theorem puzzle_len {cs : List S58} (h : puzzleB cs = true) : cs.length ≤ 6 := by unfold puzzleB at h; simp only [Bool.and_eq_true, decide_eq_true_eq] at h; exact h.1
theorem impl_Solutions.ev (cs : List S58) : Ev (fun k => impl_Solutions.f k cs) (if puzzleB cs = true then (solB cs, true) else ([], false)) := by
 unfold impl_Solutions.f
 refine Ev.bind (impl_IsPuzzle.ev cs) (Ev.ite (fun h => ?_) (fun h => ?_))
 · exact Ev.bind (impl_solve.ev cs (puzzle_all h)) (Ev.val (by rw [if_pos h]))
 exact Ev.val (by rw [if_neg h])
def countB (cs : List S58) : Int × Bool := if puzzleB cs = true then (((solB cs).length : Int), true) else (0, false)
theorem impl_CountSolutions.ev (cs : List S58) : Ev (fun k => impl_CountSolutions.f k cs) (countB cs) := by
 unfold impl_CountSolutions.f
 refine Ev.bind (impl_Solutions.ev cs) (Ev.val ?_)
 unfold countB
 by_cases h : puzzleB cs = true
 · rw [if_pos h, if_pos h]
 rw [if_neg h, if_neg h]; rfl
theorem spec_pzSolved.ev (cs : List S58) (hc : cs.all (fun c => clueB c.f0 c.f1 c.f2) = true) : Ev (fun k => spec_pzSolved.f k cs) (((solB cs).length : Int) == 1) := by
 unfold spec_pzSolved.f
 exact Ev.bind (spec_pzAll.ev cs hc) (Ev.val rfl)
def solvedB (cs : List S58) : Bool × Bool := if puzzleB cs = true then (((solB cs).length : Int) == 1, true) else (false, false)
theorem impl_IsSolved.ev (cs : List S58) : Ev (fun k => impl_IsSolved.f k cs) (solvedB cs) := by
 unfold impl_IsSolved.f
 refine Ev.bind (impl_CountSolutions.ev cs) (Ev.val ?_)
 unfold countB solvedB
 by_cases h : puzzleB cs = true
 · rw [if_pos h, if_pos h]
 rw [if_neg h, if_neg h]; rfl
theorem erase_all {cs : List S58} (h : cs.all (fun c => clueB c.f0 c.f1 c.f2) = true) (i : Nat) : (cs.eraseIdx i).all (fun c => clueB c.f0 c.f1 c.f2) = true := List.all_eq_true.2 (fun x hx => List.all_eq_true.1 h x (List.mem_of_mem_eraseIdx hx))
def needL (cs : List S58) : Nat → Nat → List Int
 | _, 0 => []
 | i, d + 1 => (if ((solB (cs.eraseIdx i)).length : Int) = ((solB cs).length : Int) then [(i : Int)] else []) ++ needL cs (i + 1) d
def needB (cs : List S58) : List Int × Bool := if puzzleB cs = true then (needL cs 0 cs.length, true) else ([], false)
theorem impl_NeedlessClues.ev_l (cs : List S58) (hc : cs.all (fun c => clueB c.f0 c.f1 c.f2) = true) (hl : cs.length ≤ 6) : ∀ (d i : Nat) (acc : List Int), i + d = cs.length → acc.length ≤ i → Ev (fun k => impl_NeedlessClues.l0 k ((solB cs).length : Int) acc (cs.length : Int) (i : Int) cs) (acc ++ needL cs i d, true) := by
 intro d
 induction d with
 | zero =>
  intro i acc hi ha
  refine Ev.step (f := fun _ => some (acc, true)) (fun k => ?_) (Ev.val (by simp [needL]))
  rw [impl_NeedlessClues.l0, if_neg (by omega)]
 | succ d ih =>
  intro i acc hi ha
  have hw := impl_dropped.val cs (i : Int) (by omega) (by omega) (by omega)
  rw [Int.toNat_natCast] at hw
  by_cases e : ((solB (cs.eraseIdx i)).length : Int) = ((solB cs).length : Int)
  · have h := ih (i + 1) (acc ++ [(i : Int)]) (by omega) (by simp; omega)
    refine Ev.step (f := fun k => (impl_solve.f k (cs.eraseIdx i)).bind fun t => if (t.length : Int) = ((solB cs).length : Int) then impl_NeedlessClues.l0 k ((solB cs).length : Int) (acc ++ [(i : Int)]) (cs.length : Int) ((i + 1 : Nat) : Int) cs else impl_NeedlessClues.l0 k ((solB cs).length : Int) acc (cs.length : Int) ((i + 1 : Nat) : Int) cs) (fun k => ?_) (Ev.bind (impl_solve.ev _ (erase_all hc i)) (Ev.pos e (Ev.eq h (by simp [needL, e]))))
    rw [impl_NeedlessClues.l0, if_pos (by omega), hw, w64 (by omega) (by omega), Option.bind_some]
    simp only [show acc.length < 17592186044416 from by omega, if_true]
    try rfl
  have h := ih (i + 1) acc (by omega) (by omega)
  refine Ev.step (f := fun k => (impl_solve.f k (cs.eraseIdx i)).bind fun t => if (t.length : Int) = ((solB cs).length : Int) then impl_NeedlessClues.l0 k ((solB cs).length : Int) (acc ++ [(i : Int)]) (cs.length : Int) ((i + 1 : Nat) : Int) cs else impl_NeedlessClues.l0 k ((solB cs).length : Int) acc (cs.length : Int) ((i + 1 : Nat) : Int) cs) (fun k => ?_) (Ev.bind (impl_solve.ev _ (erase_all hc i)) (Ev.neg e (Ev.eq h (by simp [needL, e]))))
  rw [impl_NeedlessClues.l0, if_pos (by omega), hw, w64 (by omega) (by omega), Option.bind_some]
  simp only [show acc.length < 17592186044416 from by omega, if_true]
  try rfl
theorem impl_NeedlessClues.ev (cs : List S58) : Ev (fun k => impl_NeedlessClues.f k cs) (needB cs) := by
 unfold impl_NeedlessClues.f
 refine Ev.bind (impl_CountSolutions.ev cs) ?_
 unfold countB
 by_cases h : puzzleB cs = true
 · rw [if_pos h]
   exact Ev.pos rfl (Ev.eq (impl_NeedlessClues.ev_l cs (puzzle_all h) (puzzle_len h) cs.length 0 [] (by omega) (Nat.le_refl _)) (by unfold needB; rw [if_pos h]; rfl))
 rw [if_neg h]
 exact Ev.neg (by simp) (Ev.val (by unfold needB; rw [if_neg h]))
def hardR : Nat → List S58 → Nat → List S58
 | 0, cs, _ => cs
 | d + 1, cs, i => if ((solB (cs.eraseIdx i)).length : Int) = 1 then hardR d (cs.eraseIdx i) i else hardR d cs (i + 1)
theorem hardR_length : ∀ (d : Nat) (cs : List S58) (i : Nat), (hardR d cs i).length ≤ cs.length
 | 0, _, _ => Nat.le_refl _
 | d + 1, cs, i => by
  unfold hardR
  split
  · exact Nat.le_trans (hardR_length d _ i) (List.length_eraseIdx_le _ _)
  exact hardR_length d cs (i + 1)
def hardB (cs : List S58) : List S58 × Bool := if puzzleB cs = true ∧ ((solB cs).length : Int) = 1 then (hardR cs.length cs 0, true) else ([], false)
theorem hardB_length (cs : List S58) : (hardB cs).1.length ≤ 7 := by
 unfold hardB
 split
 · rename_i h; have := hardR_length cs.length cs 0; have := puzzle_len h.1; show (hardR cs.length cs 0).length ≤ 7; omega
 simp
theorem spec_HarderPuzzle.ev_l : ∀ (d : Nat) (cs : List S58) (i : Nat), cs.all (fun c => clueB c.f0 c.f1 c.f2) = true → cs.length ≤ 6 → i + d = cs.length → Ev (fun k => spec_HarderPuzzle.l0 k cs (i : Int)) (hardR d cs i, true) := by
 intro d
 induction d with
 | zero =>
  intro cs i hc hl hi
  refine Ev.step (f := fun _ => some (cs, true)) (fun k => ?_) (Ev.val rfl)
  rw [spec_HarderPuzzle.l0, if_neg (by omega)]
 | succ d ih =>
  intro cs i hc hl hi
  have hw := spec_pzWithout.val cs (i : Int) (by omega) (by omega) (by omega)
  rw [Int.toNat_natCast] at hw
  have hel : (cs.eraseIdx i).length = cs.length - 1 := List.length_eraseIdx_of_lt (by omega)
  refine Ev.step (f := fun k => (spec_pzSolved.f k (cs.eraseIdx i)).bind fun t => if t = true then spec_HarderPuzzle.l0 k (cs.eraseIdx i) (i : Int) else spec_HarderPuzzle.l0 k cs ((i + 1 : Nat) : Int)) (fun k => ?_) (Ev.bind (spec_pzSolved.ev _ (erase_all hc i)) ?_)
  · rw [spec_HarderPuzzle.l0, if_pos (by omega), hw, w64 (by omega) (by omega)]
    rfl
  by_cases e : ((solB (cs.eraseIdx i)).length : Int) = 1
  · exact Ev.pos (by rw [beq_iff_eq]; exact e) (Ev.eq (ih (cs.eraseIdx i) i (erase_all hc i) (by omega) (by omega)) (by rw [hardR, if_pos e]))
  exact Ev.neg (by rw [beq_iff_eq]; exact e) (Ev.eq (ih cs (i + 1) hc hl (by omega)) (by rw [hardR, if_neg e]))
theorem spec_HarderPuzzle.ev (cs : List S58) : Ev (fun k => spec_HarderPuzzle.f k cs) (hardB cs) := by
 unfold spec_HarderPuzzle.f
 refine Ev.bind (spec_pzGood.ev cs) (Ev.ite (fun h => ?_) (fun h => ?_))
 · refine Ev.bind (spec_pzSolved.ev cs (puzzle_all h)) ?_
   apply Ev.step
   · intro k; rw [spec_HarderPuzzle.j0]
   have hl := puzzle_len h
   by_cases e : ((solB cs).length : Int) = 1
   · refine Ev.neg (by rw [e]; decide) (Ev.bindc rfl (Ev.pos (by simp; omega) (Ev.eq (spec_HarderPuzzle.ev_l cs.length cs 0 (puzzle_all h) hl (by omega)) ?_)))
     unfold hardB; rw [if_pos ⟨h, e⟩]
   refine Ev.pos (by simp; exact e) (Ev.val ?_)
   unfold hardB; rw [if_neg (fun c => e c.2)]
 apply Ev.step
 · intro k; rw [spec_HarderPuzzle.j0]
 exact Ev.pos rfl (Ev.val (by unfold hardB; rw [if_neg (fun c => h c.1)]))
theorem impl_HarderPuzzle.ev_l : ∀ (d : Nat) (cs : List S58) (i : Nat), cs.all (fun c => clueB c.f0 c.f1 c.f2) = true → cs.length ≤ 6 → i + d = cs.length → Ev (fun k => impl_HarderPuzzle.l0 k cs (i : Int)) (hardR d cs i, true) := by
 intro d
 induction d with
 | zero =>
  intro cs i hc hl hi
  refine Ev.step (f := fun _ => some (cs, true)) (fun k => ?_) (Ev.val rfl)
  rw [impl_HarderPuzzle.l0, if_neg (by omega)]
 | succ d ih =>
  intro cs i hc hl hi
  have hw := impl_dropped.val cs (i : Int) (by omega) (by omega) (by omega)
  rw [Int.toNat_natCast] at hw
  have hel : (cs.eraseIdx i).length = cs.length - 1 := List.length_eraseIdx_of_lt (by omega)
  refine Ev.step (f := fun k => (impl_solve.f k (cs.eraseIdx i)).bind fun t => if (t.length : Int) = 1 then impl_HarderPuzzle.l0 k (cs.eraseIdx i) (i : Int) else impl_HarderPuzzle.l0 k cs ((i + 1 : Nat) : Int)) (fun k => ?_) (Ev.bind (impl_solve.ev _ (erase_all hc i)) ?_)
  · rw [impl_HarderPuzzle.l0, if_pos (by omega), hw, w64 (by omega) (by omega)]
    rfl
  by_cases e : ((solB (cs.eraseIdx i)).length : Int) = 1
  · exact Ev.pos e (Ev.eq (ih (cs.eraseIdx i) i (erase_all hc i) (by omega) (by omega)) (by rw [hardR, if_pos e]))
  exact Ev.neg e (Ev.eq (ih cs (i + 1) hc hl (by omega)) (by rw [hardR, if_neg e]))
theorem impl_HarderPuzzle.ev (cs : List S58) : Ev (fun k => impl_HarderPuzzle.f k cs) (hardB cs) := by
 unfold impl_HarderPuzzle.f
 refine Ev.bind (impl_IsSolved.ev cs) ?_
 unfold solvedB hardB
 by_cases h : puzzleB cs = true
 · rw [if_pos h]
   have hl := puzzle_len h
   by_cases e : ((solB cs).length : Int) = 1
   · rw [if_pos ⟨h, e⟩]
     refine Ev.pos (by rw [beq_iff_eq]; exact e) (Ev.bindc (x := cs) (by unfold impl_Clue_223.f; rw [if_pos (by omega)]) (impl_HarderPuzzle.ev_l cs.length cs 0 (puzzle_all h) hl (by omega)))
   rw [if_neg (fun c => e c.2)]
   exact Ev.neg (by rw [beq_iff_eq]; exact e) (Ev.val rfl)
 rw [if_neg h, if_neg (fun c => h c.1)]
 exact Ev.neg (by simp) (Ev.val rfl)
theorem spec_l1Own.val (l : List Int) (hl : l.length ≤ 1000000) : spec_l1Own.f l = some l := by
 unfold spec_l1Own.f
 rw [Option.bind_some, if_pos (by simp <;> omega)]; rfl
theorem spec_piPut.ev_l (l : List Int) (n : Int) (hl : l.length ≤ 100000) : ∀ (k : Nat), k ≤ l.length → (∀ x ∈ l.drop k, n < x) → ∃ r, Ev (fun m => spec_piPut.l0 m l n (k : Int)) r ∧ r.Perm (n :: l) ∧ (l.Pairwise (fun x y => x ≤ y) → r.Pairwise (fun x y => x ≤ y))
 | 0, _, hd => by
  refine ⟨n :: l, ?_, List.Perm.refl _, fun h => List.pairwise_cons.2 ⟨fun y hy => by have := hd y (by simpa using hy); omega, h⟩⟩
  refine Ev.step (f := fun _ => some (n :: l)) (fun k => ?_) (Ev.val rfl)
  rw [spec_piPut.l0, if_neg (by omega), if_pos (by omega), if_pos (by omega)]
  simp only [Int.toNat_natCast, List.take_zero, List.drop_zero]
  rw [spec_l1Own.val [] (by simp), Option.bind_some, Option.bind_some, if_pos (by simp), Option.bind_some, if_pos (by simp <;> omega)]
  rfl
 | k + 1, hk, hd => by
  have hw : wrap64 (((k + 1 : Nat) : Int) - 1) = (k : Int) := by rw [w64 (by omega) (by omega)]; omega
  have hr : rd l (k : Int) = l[k] := rd_eq l k (by omega)
  by_cases c : l[k] > n
  · obtain ⟨r, h1, h2, h3⟩ := spec_piPut.ev_l l n hl k (by omega) (fun x hx => by
     rw [List.drop_eq_getElem_cons (by omega)] at hx
     rcases List.mem_cons.1 hx with e | e
     · rw [e]; exact c
     exact hd x e)
    refine ⟨r, Ev.step (f := fun m => spec_piPut.l0 m l n (k : Int)) (fun m => ?_) h1, h2, h3⟩
    rw [spec_piPut.l0, if_pos (by omega), hw, if_pos (by omega), if_pos (by omega), hr, if_pos c]
  refine ⟨l.take (k + 1) ++ n :: l.drop (k + 1), ?_, ?_, ?_⟩
  · refine Ev.step (f := fun _ => some (l.take (k + 1) ++ n :: l.drop (k + 1))) (fun m => ?_) (Ev.val rfl)
    rw [spec_piPut.l0, if_pos (by omega), hw, if_pos (by omega), if_pos (by omega), hr, if_neg c, if_pos (by omega), if_pos (by omega)]
    simp only [Int.toNat_natCast]
    rw [spec_l1Own.val _ (by simp <;> omega), Option.bind_some, Option.bind_some, if_pos (by simp <;> omega), Option.bind_some, if_pos (by simp <;> omega)]
    simp
  · refine List.perm_middle.trans ?_
    rw [List.take_append_drop]
  intro h
  have h0 := h
  rw [← List.take_append_drop (k + 1) l, List.pairwise_append] at h0
  obtain ⟨ha, hb, _⟩ := h0
  rw [List.pairwise_append, List.pairwise_cons]
  have hA : ∀ x ∈ l.take (k + 1), x ≤ n := by
   intro x hx
   rw [List.take_succ_eq_append_getElem (by omega)] at hx ha
   rcases List.mem_append.1 hx with e | e
   · have := (List.pairwise_append.1 ha).2.2 x e l[k] (by simp); omega
   rw [List.mem_singleton.1 e]; omega
  refine ⟨ha, ⟨fun y hy => by have := hd y hy; omega, hb⟩, fun x hx y hy => ?_⟩
  have h5 := hA x hx
  rcases List.mem_cons.1 hy with e | e
  · rw [e]; exact h5
  have := hd y e; omega
theorem spec_piPut.ev (l : List Int) (n : Int) (hl : l.length ≤ 100000) : ∃ r, Ev (fun m => spec_piPut.f m l n) r ∧ r.Perm (n :: l) ∧ (l.Pairwise (fun x y => x ≤ y) → r.Pairwise (fun x y => x ≤ y)) :=
 spec_piPut.ev_l l n hl l.length (Nat.le_refl _) (fun x hx => by simp at hx)
theorem spec_pzOf.ev (kind a : Int) (l : List Int) (hk : 0 ≤ kind ∧ kind ≤ 5) (hl : l.length ≤ 20) (h1 : ∀ x ∈ l, 1 ≤ x) (hs : l.sum ≤ 1000000000) (ha : 0 ≤ a) : Ev (fun k => spec_pzOf.f k kind a l) (clueL kind a l) := by
 refine Ev.bindc (spec_pzAlone.val kind) (Ev.ite (fun c => ?_) (fun c => ?_))
 · refine Ev.bind (spec_pzValue.ev kind 0 l hl h1 hs (.inl (by omega))) (Ev.val ?_)
   have c' := of_decide_eq_true c
   have e : kind = 0 ∨ kind = 1 ∨ kind = 3 := by omega
   rcases e with e | e | e <;> (subst e; simp [clueL, pzV])
 refine Ev.bind (spec_pzValue.ev kind a l hl h1 hs (.inl ha)) (Ev.val ?_)
 have c' : ¬ (kind < 2 ∨ kind = 3) := fun q => c (decide_eq_true q)
 have e : kind = 2 ∨ kind = 4 ∨ kind = 5 := by omega
 rcases e with e | e | e <;> (subst e; simp [clueL, pzV])
def mkB (l : List Int) : Nat → Int → List S58 → List S58
 | 0, _, acc => acc
 | d + 1, z, acc => mkB l d (nxtZ (nxtZ z)) (acc ++ [⟨(clueL (Int.tmod (nxtZ z) 6) (mkArg z) l).1, (clueL (Int.tmod (nxtZ z) 6) (mkArg z) l).2.1, (clueL (Int.tmod (nxtZ z) 6) (mkArg z) l).2.2⟩])
theorem mkB_length (l : List Int) : ∀ (d : Nat) (z : Int) (acc : List S58), (mkB l d z acc).length = acc.length + d
 | 0, _, _ => rfl
 | d + 1, z, acc => by rw [mkB, mkB_length l d]; simp; omega
theorem kind_in (z : Int) : 0 ≤ Int.tmod (nxtZ z) 6 ∧ Int.tmod (nxtZ z) 6 ≤ 5 := by
 have h := nxtZ_in z
 rw [Int.tmod_eq_emod_of_nonneg h.1]; omega
theorem tmod25_in (z : Int) : 0 ≤ Int.tmod (nxtZ z) 25 := by
 have h := nxtZ_in z
 rw [Int.tmod_eq_emod_of_nonneg h.1]; omega
theorem mkArg_nonneg (z : Int) : 0 ≤ mkArg z := by
 unfold mkArg
 have h1 := kind_in (nxtZ z)
 have h2 := tmod25_in (nxtZ z)
 split
 · rw [w64 (by omega) (by omega)]; omega
 exact h2
theorem mkL.ev (l : List Int) (hl : l.length ≤ 20) (h1 : ∀ x ∈ l, 1 ≤ x) (hs : l.sum ≤ 1000000000) : ∀ (d : Nat) (z : Int) (acc : List S58), Ev (fun k => mkL k l d z acc) (mkB l d z acc)
 | 0, _, _ => Ev.val rfl
 | d + 1, z, acc => Ev.bind (impl_clueOf.ev _ _ l hl h1 hs (.inl (mkArg_nonneg z))) (mkL.ev l hl h1 hs d _ _)
theorem spec_pzNext.val (z : Int) (h : 0 ≤ z ∧ z ≤ 10006) : spec_pzNext.f z = some (nxtZ z) := by
 unfold spec_pzNext.f nxtZ
 rw [w64 (n := 179 * z) (by omega) (by omega), w64 (by omega) (by omega), Int.tmod_eq_emod_of_nonneg (by omega), Int.mul_comm]
theorem spec_MakePuzzle.ev_l (l : List Int) (hl : l.length ≤ 20) (h1 : ∀ x ∈ l, 1 ≤ x) (hs : l.sum ≤ 1000000000) : ∀ (d : Nat) (z : Int) (acc : List S58), d ≤ 1000000 → 0 ≤ z ∧ z ≤ 10006 → acc.length + d ≤ 1000000 → Ev (fun k => spec_MakePuzzle.l0 k l (d : Int) z acc) (mkB l d z acc, true)
 | 0, z, acc, _, _, _ => by
  refine Ev.step (f := fun _ => some (acc, true)) (fun k => ?_) (Ev.val rfl)
  rw [spec_MakePuzzle.l0, if_neg (by omega)]
 | d + 1, z, acc, hd, hz, ha => by
  have hz1 := nxtZ_in z
  have hz2 := nxtZ_in (nxtZ z)
  have hk := kind_in z
  have hg := mkArg_nonneg z
  have h := spec_MakePuzzle.ev_l l hl h1 hs d (nxtZ (nxtZ z)) (acc ++ [⟨(clueL (Int.tmod (nxtZ z) 6) (mkArg z) l).1, (clueL (Int.tmod (nxtZ z) 6) (mkArg z) l).2.1, (clueL (Int.tmod (nxtZ z) 6) (mkArg z) l).2.2⟩]) (by omega) hz2 (by simp; omega)
  have ho := spec_pzOf.ev _ _ l hk hl h1 hs hg
  have hw : wrap64 (((d + 1 : Nat) : Int) - 1) = (d : Int) := by rw [w64 (by omega) (by omega)]; omega
  refine Ev.step (f := fun k => (spec_pzOf.f k (Int.tmod (nxtZ z) 6) (mkArg z) l).bind fun bt => spec_MakePuzzle.l0 k l (d : Int) (nxtZ (nxtZ z)) (acc ++ [⟨bt.1, bt.2.1, bt.2.2⟩])) (fun k => ?_) (Ev.bind ho h)
  rw [spec_MakePuzzle.l0, if_pos (by omega), spec_pzNext.val z hz, Option.bind_some, spec_pzNext.val _ hz1, Option.bind_some, hw]
  unfold mkArg
  by_cases c : Int.tmod (nxtZ z) 6 = 5
  · rw [if_pos c, if_pos c]
    congr 1; funext t; rw [if_pos (by omega)]
  rw [if_neg c, if_neg c]
  congr 1; funext t; rw [if_pos (by omega)]
def makeB (l : List Int) (m s : Int) : List S58 × Bool := if hiddenB l = true ∧ 0 ≤ m ∧ m ≤ 6 ∧ 0 ≤ s ∧ s ≤ 9999 then (mkB l m.toNat s [], true) else ([], false)
theorem makeB_length (l : List Int) (m s : Int) : (makeB l m s).1.length ≤ 6 := by
 unfold makeB
 split
 · rename_i h; rw [mkB_length]; simp; omega
 simp
theorem impl_MakePuzzle.ev (l : List Int) (m s : Int) (hl : l.length ≤ 9223372036854775806) : Ev (fun k => impl_MakePuzzle.f k l m s) (makeB l m s) := by
 unfold impl_MakePuzzle.f makeB
 refine Ev.bind (impl_IsHidden.ev l hl) (Ev.ite (fun c => ?_) (fun c => Ev.val (by rw [if_neg c])))
 obtain ⟨f1, f2, f3⟩ := hiddenB_facts c.1
 rw [if_pos c]
 exact Ev.bind (mkL.ev l (by omega) (fun x hx => (f2 x hx).1) (by omega) _ _ _) (Ev.val rfl)
theorem spec_MakePuzzle.ev (l : List Int) (m s : Int) (hl : l.length ≤ 9223372036854775806) : Ev (fun k => spec_MakePuzzle.f k l m s) (makeB l m s) := by
 unfold spec_MakePuzzle.f makeB
 have hj : ∀ x, x = true → Ev (fun k => spec_MakePuzzle.j0 k l m s x) (([] : List S58), false) := fun x hx => by
  refine Ev.step (f := fun _ => some (([] : List S58), false)) (fun k => ?_) (Ev.val rfl)
  rw [spec_MakePuzzle.j0, if_pos hx]
 refine Ev.bind (spec_pzHidden.ev l hl) (Ev.ite (fun c => Ev.bindc (spec_l1In.valB m 0 6) (Ev.ite (fun c2 => Ev.bindc (spec_l1In.valB s 0 9999) ?_) (fun c2 => ?_))) (fun c => ?_))
 · have d2 : 0 ≤ m ∧ m ≤ 6 := by simpa [inB] using c2
   by_cases c3 : inB s 0 9999 = true
   · have d3 : 0 ≤ s ∧ s ≤ 9999 := by simpa [inB] using c3
     obtain ⟨f1, f2, f3⟩ := hiddenB_facts c
     rw [if_pos ⟨c, d2.1, d2.2, d3.1, d3.2⟩, c3]
     have h := spec_MakePuzzle.ev_l l (by omega) (fun x hx => (f2 x hx).1) (by omega) m.toNat s [] (by omega) (by omega) (by simp; omega)
     rw [Int.toNat_of_nonneg d2.1] at h
     refine Ev.step (f := fun k => spec_MakePuzzle.l0 k l m s []) (fun k => ?_) h
     rw [spec_MakePuzzle.j0, if_neg (by simp)]
   rw [if_neg (fun q => c3 (by simp [inB, q.2.2.2.1, q.2.2.2.2]))]
   exact hj _ (by simpa using c3)
 · rw [if_neg (fun q => c2 (by simp [inB, q.2.1, q.2.2.1]))]
   exact hj _ rfl
 rw [if_neg (fun q => c q.1)]
 exact hj _ rfl
theorem fits_sub {a b : List S58} (h : a.Sublist b) (l : List Int) : fitsAll b l = true → fitsAll a l = true := fun hb =>
 List.all_eq_true.2 (fun x hx => List.all_eq_true.1 hb x (h.subset hx))
theorem sol_sub {a b : List S58} (h : a.Sublist b) : (solB b).Sublist (solB a) := by
 unfold solB
 have e : (hidL 4 [] 1).filter (fitsAll b) = ((hidL 4 [] 1).filter (fitsAll a)).filter (fitsAll b) := by
  rw [List.filter_filter]
  refine List.filter_congr (fun l _ => ?_)
  cases e : fitsAll b l with
  | false => rfl
  | true => rw [fits_sub h l e]; rfl
 rw [e]
 exact List.filter_sublist
theorem erase_erase_sub {α : Type} : ∀ (l : List α) (i j : Nat), j < i → ((l.eraseIdx i).eraseIdx j).Sublist (l.eraseIdx j)
 | [], _, _, _ => by simp
 | x :: l, 0, j, h => absurd h (by omega)
 | x :: l, i + 1, 0, _ => by simp only [List.eraseIdx_cons_succ, List.eraseIdx_cons_zero]; exact List.eraseIdx_sublist _ _
 | x :: l, i + 1, j + 1, h => by
  simp only [List.eraseIdx_cons_succ]
  exact (erase_erase_sub l i j (by omega)).cons_cons x
theorem hardR_sub : ∀ (d : Nat) (cs : List S58) (i : Nat), (hardR d cs i).Sublist cs
 | 0, _, _ => List.Sublist.refl _
 | d + 1, cs, i => by
  unfold hardR
  split
  · exact (hardR_sub d _ i).trans (List.eraseIdx_sublist _ _)
  exact hardR_sub d cs (i + 1)
theorem hardR_sol : ∀ (d : Nat) (cs : List S58) (i : Nat), (solB cs).length = 1 → (solB (hardR d cs i)).length = 1
 | 0, _, _, h => h
 | d + 1, cs, i, h => by
  unfold hardR
  split
  · exact hardR_sol d _ i (by omega)
  exact hardR_sol d cs (i + 1) h
theorem hardR_need : ∀ (d : Nat) (cs : List S58) (i : Nat), (solB cs).length = 1 → i + d = cs.length → (∀ j, j < i → (solB (cs.eraseIdx j)).length ≠ 1) → ∀ j, j < (hardR d cs i).length → (solB ((hardR d cs i).eraseIdx j)).length ≠ 1
 | 0, cs, i, h1, h2, h3, j, hj => h3 j (by simp only [hardR] at hj; omega)
 | d + 1, cs, i, h1, h2, h3, j, hj => by
  unfold hardR at hj ⊢
  split at hj
  · rename_i c
    rw [if_pos c]
    refine hardR_need d (cs.eraseIdx i) i (by omega) (by rw [List.length_eraseIdx_of_lt (by omega)]; omega) (fun q hq => ?_) j hj
    have ha := h3 q hq
    have hb := (sol_sub (erase_erase_sub cs i q hq)).length_le
    have hc := (sol_sub (List.eraseIdx_sublist cs q)).length_le
    omega
  rename_i c
  rw [if_neg c]
  refine hardR_need d cs (i + 1) h1 (by omega) (fun q hq => ?_) j hj
  by_cases e : q = i
  · subst e; omega
  exact h3 q (by omega)
theorem needL_nil (cs : List S58) : ∀ (d i : Nat), i + d = cs.length → (∀ j, j < cs.length → (solB (cs.eraseIdx j)).length ≠ (solB cs).length) → needL cs i d = []
 | 0, _, _, _ => rfl
 | d + 1, i, h, hj => by
  rw [needL, needL_nil cs d (i + 1) (by omega) hj, if_neg (by have := hj i (by omega); omega)]; rfl
/-- Nothing is needless in a harder puzzle. -/
theorem hardR_needless (cs : List S58) (h : (solB cs).length = 1) : needL (hardR cs.length cs 0) 0 (hardR cs.length cs 0).length = [] := by
 refine needL_nil _ _ _ (by omega) (fun j hj => ?_)
 rw [hardR_sol _ _ _ h]
 exact hardR_need cs.length cs 0 h (by omega) (fun j hj => absurd hj (by omega)) j hj
theorem hardR_same (cs : List S58) (h : (solB cs).length = 1) : solB (hardR cs.length cs 0) = solB cs :=
 ((sol_sub (hardR_sub _ _ _)).eq_of_length (by rw [h, hardR_sol _ _ _ h])).symm
/-! ### What a reader of random bytes yields -/
def BytesL (l : List Int) : Prop := l.length ≤ 1048576 ∧ ∀ x ∈ l, 0 ≤ x ∧ x ≤ 255
theorem rd_bytes {l : List Int} (h : BytesL l) {i : Int} (h0 : 0 ≤ i) (h1 : i < (l.length : Int)) : 0 ≤ rd l i ∧ rd l i ≤ 255 := by
 obtain ⟨n, rfl⟩ := Int.eq_ofNat_of_zero_le h0
 have hn : n < l.length := by omega
 rw [rd_eq l n hn]
 exact h.2 _ (List.getElem_mem hn)
theorem u64_range (n : Int) : 0 ≤ IntKind.u64.wrap n ∧ IntKind.u64.wrap n < 18446744073709551616 := by
 have : IntKind.u64.wrap n = n % 18446744073709551616 := by simp [IntKind.wrap, IntKind.bits, IntKind.signed]
 rw [this]; omega
theorem seed_byte (n : Int) : 0 ≤ wrap64 (Go.bits .and .u64 (IntKind.u64.wrap n / 1099511627776) 255) ∧ wrap64 (Go.bits .and .u64 (IntKind.u64.wrap n / 1099511627776) 255) ≤ 255 := by
 have h := u64_range n
 generalize IntKind.u64.wrap n = m at *
 have hk : ∀ n : Int, 0 ≤ n → n < 2 ^ 63 → IntKind.u64.wrap n = n := fun n h0 h1 => by
  have : IntKind.u64.wrap n = n % 18446744073709551616 := by simp [IntKind.wrap, IntKind.bits, IntKind.signed]
  rw [this]; omega
 have e : Go.bits .and .u64 (m / 1099511627776) 255 = (m / 1099511627776) % 256 := Go.bits_mask .u64 63 (by decide) hk 8 (by decide) _ (by omega) (by omega)
 rw [e, w64 (by omega) (by omega)]; omega
theorem cur_next {l : List Int} (h : BytesL l) {a : Int} (b : Int) (h0 : 0 ≤ a) (h1 : a ≤ 1000000000000) : ∃ r t, spec_l1Cur_next.f l a b = some (r, a + 1, t) ∧ 0 ≤ r ∧ r ≤ 255 := by
 have ew : wrap64 (a + 1) = a + 1 := w64 (by omega) (by omega)
 have hl := h.1
 unfold spec_l1Cur_next.f
 rw [ew]
 by_cases c : a < (l.length : Int)
 · have hb := rd_bytes h h0 c
   rw [if_pos c, if_pos h0, if_pos (by omega), w64 (n := rd l a) (by omega) (by omega)]
   exact ⟨_, _, rfl, hb.1, hb.2⟩
 rw [if_neg c, if_neg (by omega)]
 exact ⟨_, _, rfl, (seed_byte _).1, (seed_byte _).2⟩
theorem cur_pick {l : List Int} (h : BytesL l) {a : Int} (b : Int) {n : Int} (h0 : 0 ≤ a) (h1 : a ≤ 999999999999) (hn : 1 ≤ n) (hn' : n ≤ 65536) : ∃ r a' t, spec_l1Cur_pick.f l a b n = some (r, a', t) ∧ 0 ≤ r ∧ r < n ∧ a ≤ a' ∧ a' ≤ a + 2 := by
 unfold spec_l1Cur_pick.f
 by_cases c : n ≤ 1
 · rw [if_pos c]; exact ⟨_, _, _, rfl, by omega, by omega, by omega, by omega⟩
 rw [if_neg c]
 obtain ⟨r, t, e, hr0, hr1⟩ := cur_next h b h0 (by omega)
 rw [e, Option.bind_some]
 by_cases d : n > 200
 · obtain ⟨r', t', e', hr0', hr1'⟩ := cur_next h t (a := a + 1) (by omega) (by omega)
   have e1 : wrap64 (r * 256) = r * 256 := w64 (by omega) (by omega)
   have e2 : wrap64 (r * 256 + r') = r * 256 + r' := w64 (by omega) (by omega)
   simp only
   rw [if_pos d, e', Option.bind_some, if_neg (by omega)]
   simp only
   rw [e1, e2]
   refine ⟨_, _, _, rfl, Int.tmod_nonneg _ (by omega), Int.tmod_lt_of_pos _ (by omega), by omega, by omega⟩
 simp only
 rw [if_neg d, if_neg (by omega)]
 exact ⟨_, _, _, rfl, Int.tmod_nonneg _ hr0, Int.tmod_lt_of_pos _ (by omega), by omega, by omega⟩
theorem cur_among {l : List Int} (h : BytesL l) {a : Int} (b : Int) (m : List Int) (h0 : 0 ≤ a) (h1 : a ≤ 999999999999) (hn : 1 ≤ m.length) (hn' : m.length ≤ 65536) : ∃ r a' t, spec_l1Cur_among.f l a b m = some (r, a', t) ∧ r ∈ m ∧ a ≤ a' ∧ a' ≤ a + 2 := by
 unfold spec_l1Cur_among.f
 obtain ⟨r, a', t, e, hr0, hr1, ha, ha'⟩ := cur_pick h b (n := (m.length : Int)) h0 h1 (by omega) (by omega)
 rw [e, Option.bind_some]
 simp only
 rw [if_pos hr0, if_pos hr1]
 refine ⟨_, _, _, rfl, ?_, ha, ha'⟩
 obtain ⟨n, rfl⟩ := Int.eq_ofNat_of_zero_le hr0
 rw [rd_eq m n (by omega)]
 exact List.getElem_mem _
theorem cur_one {l : List Int} (h : BytesL l) {a : Int} (b : Int) {n : Int} (h0 : 0 ≤ a) (h1 : a ≤ 999999999999) (hn : 1 ≤ n) (hn' : n ≤ 65536) : ∃ r a' t, spec_l1Cur_one.f l a b n = some (r, a', t) ∧ a ≤ a' ∧ a' ≤ a + 2 := by
 unfold spec_l1Cur_one.f
 obtain ⟨r, a', t, e, hr0, hr1, ha, ha'⟩ := cur_pick h b h0 h1 hn hn'
 rw [e, Option.bind_some]
 exact ⟨_, _, _, rfl, ha, ha'⟩
theorem bytes_of {l : List Int} (h1 : l.length ≤ 1048576) (h : ∀ x ∈ l, (Lit.int .u8 x).wf = true) : BytesL l := ⟨h1, fun x hx => by
 have := h x hx
 simp [Lit.wf, IntKind.min, IntKind.max, IntKind.bits, IntKind.signed] at this
 omega⟩
theorem cur_hidden_l {l : List Int} (h : BytesL l) : ∀ (d : Nat) (x3 : List Int), x3.length + d ≤ 10 → ∀ {a : Int} (s : Int), 0 ≤ a → a + 2 * (d : Int) ≤ 800000000000 → ∃ r a' t, Ev (fun k => spec_l1Cur_hidden.l0 k x3 (d : Int) l a s) (r, a', t) ∧ r.length ≤ 20 ∧ a ≤ a' ∧ a' ≤ a + 2 * (d : Int) + 10
 | 0, x3, hx, a, s, h0, h1 => by
  obtain ⟨r, a1, s1, e1, hr0, hr1, ha, ha'⟩ := cur_pick h s (n := 20) h0 (by omega) (by omega) (by omega)
  by_cases c : r = 0
  · obtain ⟨r2, a2, s2, e2, _, hb, hb'⟩ := cur_among h s1 (a := a1) [(-1), 0, 1, 6, 7, 4611686018427387904] (by omega) (by omega) (by simp) (by simp)
    exact ⟨_, _, _, Ev.step (f := fun _ => some (x3 ++ [r2], a2, s2)) (fun k => by rw [spec_l1Cur_hidden.l0, if_neg (by omega), e1, Option.bind_some, if_pos c, e2, Option.bind_some, if_pos (by omega)]) (Ev.val rfl), by simp; omega, by omega, by omega⟩
  by_cases c2 : r = 1
  · exact ⟨_, _, _, Ev.step (f := fun _ => some (x3 ++ [6, 6], a1, s1)) (fun k => by rw [spec_l1Cur_hidden.l0, if_neg (by omega), e1, Option.bind_some, if_neg c, if_pos c2, Option.bind_some, if_pos (by simp; omega)]) (Ev.val rfl), by simp; omega, by omega, by omega⟩
  exact ⟨_, _, _, Ev.step (f := fun _ => some (x3, a1, s1)) (fun k => by rw [spec_l1Cur_hidden.l0, if_neg (by omega), e1, Option.bind_some, if_neg c, if_neg c2]) (Ev.val rfl), by omega, by omega, by omega⟩
 | d + 1, x3, hx, a, s, h0, h1 => by
  obtain ⟨r, a1, s1, e1, hr0, hr1, ha, ha'⟩ := cur_pick h s (n := 6) h0 (by omega) (by omega) (by omega)
  obtain ⟨q, q1, q2, _⟩ := spec_piPut.ev x3 (wrap64 (1 + r)) (by omega)
  have ql := q2.length_eq
  simp only [List.length_cons] at ql
  obtain ⟨r2, a2, s2, e2, g1, g2, g3⟩ := cur_hidden_l h d q (by omega) (a := a1) s1 (by omega) (by omega)
  have ed : wrap64 (((d + 1 : Nat) : Int) - 1) = (d : Int) := by rw [w64 (by omega) (by omega)]; omega
  refine ⟨r2, a2, s2, Ev.step (f := fun k => (spec_piPut.f k x3 (wrap64 (1 + r))).bind fun t => spec_l1Cur_hidden.l0 k t (d : Int) l a1 s1) (fun k => ?_) (Ev.bind q1 e2), g1, by omega, by omega⟩
  rw [spec_l1Cur_hidden.l0, if_pos (by omega), e1, Option.bind_some, ed]
theorem cur_hidden {l : List Int} (h : BytesL l) {a : Int} (s : Int) (h0 : 0 ≤ a) (h1 : a ≤ 700000000000) : ∃ r a' t, Ev (fun k => spec_l1Cur_hidden.f k l a s) (r, a', t) ∧ r.length ≤ 20 ∧ a ≤ a' ∧ a' ≤ a + 30 := by
 unfold spec_l1Cur_hidden.f
 obtain ⟨r, a1, s1, e1, hr0, hr1, ha, ha'⟩ := cur_pick h s (n := 5) h0 (by omega) (by omega) (by omega)
 obtain ⟨n, rfl⟩ := Int.eq_ofNat_of_zero_le hr0
 obtain ⟨r2, a2, s2, e2, g1, g2, g3⟩ := cur_hidden_l h n [] (by simp; omega) (a := a1) s1 (by omega) (by omega)
 exact ⟨_, _, _, Ev.bindc e1 e2, g1, by omega, by omega⟩
theorem cur_clue {l : List Int} (h : BytesL l) {a : Int} (s : Int) (h0 : 0 ≤ a) (h1 : a ≤ 700000000000) : ∃ x y z a' t, Ev (fun k => spec_l1Cur_clue.f k l a s) (x, y, z, a', t) ∧ a ≤ a' ∧ a' ≤ a + 30 := by
 have hj : ∀ (b : Bool) (x y z : Int) {a : Int} (s : Int), 0 ≤ a → a ≤ 800000000000 → ∃ z' a' t, Ev (fun k => spec_l1Cur_clue.j0 k b l a s x y z) (x, y, z', a', t) ∧ a ≤ a' ∧ a' ≤ a + 4 := by
  intro b x y z a s h0 h1
  cases b with
  | false => exact ⟨z, a, s, Ev.step (f := fun _ => some (x, y, z, a, s)) (fun k => by rw [spec_l1Cur_clue.j0, if_neg (by decide)]) (Ev.val rfl), by omega, by omega⟩
  | true =>
   obtain ⟨r, a1, s1, e1, _, _, ha, ha'⟩ := cur_pick h s (n := 3) h0 (by omega) (by omega) (by omega)
   obtain ⟨r2, a2, s2, e2, _, _, hb, hb'⟩ := cur_pick h s1 (a := a1) (n := 9) (by omega) (by omega) (by omega) (by omega)
   exact ⟨_, _, _, Ev.step (f := fun _ => some (x, y, wrap64 (r - (wrap64 (Int.tdiv r2 8))), a2, s2)) (fun k => by rw [spec_l1Cur_clue.j0, if_pos rfl, e1, Option.bind_some, e2, Option.bind_some]) (Ev.val rfl), by omega, by omega⟩
 unfold spec_l1Cur_clue.f
 obtain ⟨r1, a1, s1, e1, _, _, ha, ha'⟩ := cur_pick h s (n := 6) h0 (by omega) (by omega) (by omega)
 obtain ⟨r2, a2, s2, e2, _, _, hb, hb'⟩ := cur_pick h s1 (a := a1) (n := 9) (by omega) (by omega) (by omega) (by omega)
 obtain ⟨r3, a3, s3, e3, _, _, hc, hc'⟩ := cur_pick h s2 (a := a2) (n := 6) (by omega) (by omega) (by omega) (by omega)
 obtain ⟨r4, a4, s4, e4, _, _, hd, hd'⟩ := cur_pick h s3 (a := a3) (n := 9) (by omega) (by omega) (by omega) (by omega)
 by_cases c : decide ((wrap64 (r1 + (wrap64 (Int.tdiv r2 8)))) < 2 ∨ (wrap64 (r1 + (wrap64 (Int.tdiv r2 8)))) = 3) = true
 · obtain ⟨r5, a5, s5, e5, he, he'⟩ := cur_one h s4 (a := a4) (n := 8) (by omega) (by omega) (by omega) (by omega)
   obtain ⟨z, a6, s6, e6, hf, hf'⟩ := hj r5 (wrap64 (r1 + (wrap64 (Int.tdiv r2 8)))) (wrap64 (r3 - (wrap64 (Int.tdiv r4 8)))) 0 (a := a5) s5 (by omega) (by omega)
   exact ⟨_, _, z, a6, s6, Ev.bindc e1 (Ev.bindc e2 (Ev.bindc e3 (Ev.bindc e4 (Ev.bindc (spec_pzAlone.val _) (Ev.pos c (Ev.bindc e5 e6)))))), by omega, by omega⟩
 obtain ⟨z, a6, s6, e6, hf, hf'⟩ := hj true (wrap64 (r1 + (wrap64 (Int.tdiv r2 8)))) (wrap64 (r3 - (wrap64 (Int.tdiv r4 8)))) 0 (a := a4) s4 (by omega) (by omega)
 exact ⟨_, _, z, a6, s6, Ev.bindc e1 (Ev.bindc e2 (Ev.bindc e3 (Ev.bindc e4 (Ev.bindc (spec_pzAlone.val _) (Ev.neg c e6))))), by omega, by omega⟩
theorem cur_sure {l : List Int} (h : BytesL l) {a : Int} (s : Int) (h0 : 0 ≤ a) (h1 : a ≤ 600000000000) : ∃ r a' t, Ev (fun k => spec_l1Cur_surePuzzle.f k l a s 5) (r, a', t) ∧ r.length ≤ 6 ∧ a ≤ a' ∧ a' ≤ a + 50 := by
 unfold spec_l1Cur_surePuzzle.f
 obtain ⟨r1, a1, s1, e1, hl, ha, ha'⟩ := cur_hidden h s h0 (by omega)
 obtain ⟨r2, a2, s2, e2, _, _, hb, hb'⟩ := cur_pick h s1 (a := a1) (n := wrap64 (5 + 1)) (by omega) (by omega) (by rw [w64 (by omega) (by omega)]; omega) (by rw [w64 (by omega) (by omega)]; omega)
 obtain ⟨r3, a3, s3, e3, _, _, hc, hc'⟩ := cur_pick h s2 (a := a2) (n := 10000) (by omega) (by omega) (by omega) (by omega)
 exact ⟨_, _, _, Ev.bind e1 (Ev.bindc e2 (Ev.bindc e3 (Ev.bind (spec_MakePuzzle.ev r1 r2 r3 (by omega)) (Ev.val rfl)))), makeB_length _ _ _, by dsimp only; omega, by dsimp only; omega⟩
theorem cur_puzzle_l {l : List Int} (h : BytesL l) : ∀ (d : Nat) (x : List S58), x.length + d = 8 → ∀ {a : Int} (s : Int), 0 ≤ a → a + 2 * (d : Int) ≤ 800000000000 → ∃ r a' t, Ev (fun k => spec_l1Cur_puzzle.l0 k l a s x) (r, a', t) ∧ r.length ≤ 8 ∧ a ≤ a' ∧ a' ≤ a + 2 * (d : Int) + 2
 | d, x, hx, a, s, h0, h1 => by
  obtain ⟨r, a1, s1, e1, hr0, hr1, ha, ha'⟩ := cur_pick h s (n := 2) h0 (by omega) (by omega) (by omega)
  have ew : wrap64 (6 + r) = 6 + r := w64 (by omega) (by omega)
  by_cases c : (x.length : Int) < 6 + r
  · match d, hx, h1 with
    | 0, hx, h1 => omega
    | d + 1, hx, h1 =>
     obtain ⟨r2, a2, s2, e2, g1, g2, g3⟩ := cur_puzzle_l h d (x ++ [⟨2, 0, 1⟩]) (by simp; omega) (a := a1) s1 (by omega) (by omega)
     refine ⟨r2, a2, s2, Ev.step (f := fun k => spec_l1Cur_puzzle.l0 k l a1 s1 (x ++ [⟨2, 0, 1⟩])) (fun k => ?_) e2, g1, by omega, by omega⟩
     rw [spec_l1Cur_puzzle.l0, e1, Option.bind_some, if_pos (by simp only; omega), if_pos (by omega)]
  refine ⟨x, a1, s1, Ev.step (f := fun _ => some (x, a1, s1)) (fun k => ?_) (Ev.val rfl), by omega, by omega, by omega⟩
  rw [spec_l1Cur_puzzle.l0, e1, Option.bind_some, if_neg (by simp only; omega)]
theorem cur_puzzle {l : List Int} (h : BytesL l) {a : Int} (s : Int) (h0 : 0 ≤ a) (h1 : a ≤ 500000000000) : ∃ r a' t, Ev (fun k => spec_l1Cur_puzzle.f k l a s) (r, a', t) ∧ r.length ≤ 8 ∧ a ≤ a' ∧ a' ≤ a + 100 := by
 unfold spec_l1Cur_puzzle.f
 obtain ⟨r1, a1, s1, e1, hl, ha, ha'⟩ := cur_sure h s h0 (by omega)
 obtain ⟨r2, a2, s2, e2, _, _, hb, hb'⟩ := cur_pick h s1 (a := a1) (n := 12) (by omega) (by omega) (by omega) (by omega)
 by_cases c : r2 = 0
 · obtain ⟨x, y, z, a3, s3, e3, hc, hc'⟩ := cur_clue h s2 (a := a2) (by omega) (by omega)
   exact ⟨_, _, _, Ev.bind e1 (Ev.bindc e2 (Ev.pos c (Ev.bind e3 (Ev.pos (by simp only; omega) (Ev.val rfl))))), by simp; omega, by simp only; omega, by simp only; omega⟩
 by_cases c2 : r2 = 1
 · obtain ⟨r3, a3, s3, e3, g1, g2, g3⟩ := cur_puzzle_l h (8 - r1.length) r1 (by omega) (a := a2) s2 (by omega) (by omega)
   exact ⟨_, _, _, Ev.bind e1 (Ev.bindc e2 (Ev.neg c (Ev.pos c2 e3))), g1, by omega, by omega⟩
 exact ⟨_, _, _, Ev.bind e1 (Ev.bindc e2 (Ev.neg c (Ev.neg c2 (Ev.val rfl)))), by simp only; omega, by simp only; omega, by simp only; omega⟩
theorem drawMakePuzzle_ev {l : List Int} (h : BytesL l) : ∃ r m s, Ev (fun k => spec_DrawMakePuzzle.f k l) (r, m, s) ∧ r.length ≤ 20 := by
 have key : ∃ r m s a t, Ev (fun k => spec_DrawMakePuzzle_in.f k l 0 0) (r, m, s, a, t) ∧ r.length ≤ 20 := by
  unfold spec_DrawMakePuzzle_in.f
  obtain ⟨r1, a1, s1, e1, ha, ha'⟩ := cur_one h 0 (a := 0) (n := 12) (by omega) (by omega) (by omega) (by omega)
  obtain ⟨r2, a2, s2, e2, hl, hb, hb'⟩ := cur_hidden h s1 (a := a1) (by omega) (by omega)
  by_cases c : r1 = true
  · obtain ⟨r3, a3, s3, e3, _, hc, hc'⟩ := cur_among h s2 (a := a2) [(-1), 6, 7] (by omega) (by omega) (by simp) (by simp)
    obtain ⟨r4, a4, s4, e4, _, hd, hd'⟩ := cur_among h s3 (a := a3) [(-1), 9999, 10000] (by omega) (by omega) (by simp) (by simp)
    exact ⟨_, _, _, _, _, Ev.bindc e1 (Ev.pos c (Ev.bind e2 (Ev.bindc e3 (Ev.bindc e4 (Ev.val rfl))))), hl⟩
  obtain ⟨r3, a3, s3, e3, _, _, hc, hc'⟩ := cur_pick h s2 (a := a2) (n := 7) (by omega) (by omega) (by omega) (by omega)
  obtain ⟨r4, a4, s4, e4, _, _, hd, hd'⟩ := cur_pick h s3 (a := a3) (n := 10000) (by omega) (by omega) (by omega) (by omega)
  exact ⟨_, _, _, _, _, Ev.bindc e1 (Ev.neg c (Ev.bind e2 (Ev.bindc e3 (Ev.bindc e4 (Ev.val rfl))))), hl⟩
 obtain ⟨r, m, s, a, t, e, hl⟩ := key
 exact ⟨r, m, s, by unfold spec_DrawMakePuzzle.f; exact Ev.bind e (Ev.now _), hl⟩
theorem drawAddClue_ev {l : List Int} (h : BytesL l) : ∃ r x y z, Ev (fun k => spec_DrawAddClue.f k l) (r, x, y, z) ∧ r.length ≤ 8 := by
 obtain ⟨r1, a1, s1, e1, hl, ha, ha'⟩ := cur_puzzle h 0 (a := 0) (by omega) (by omega)
 obtain ⟨x, y, z, a3, s3, e3, hc, hc'⟩ := cur_clue h s1 (a := a1) (by omega) (by omega)
 refine ⟨r1, x, y, z, ?_, hl⟩
 unfold spec_DrawAddClue.f spec_DrawAddClue_in.f
 exact Ev.bind (Ev.bind e1 (Ev.bind e3 (Ev.now _))) (Ev.now _)
theorem drawDropClue_ev {l : List Int} (h : BytesL l) : ∃ r x, Ev (fun k => spec_DrawDropClue.f k l) (r, x) ∧ r.length ≤ 8 := by
 obtain ⟨r1, a1, s1, e1, hl, ha, ha'⟩ := cur_puzzle h 0 (a := 0) (by omega) (by omega)
 obtain ⟨r2, a2, s2, e2, _, _, hb, hb'⟩ := cur_pick h s1 (a := a1) (n := 6) (by omega) (by omega) (by omega) (by omega)
 obtain ⟨r3, a3, s3, e3, _, _, hc, hc'⟩ := cur_pick h s2 (a := a2) (n := 9) (by omega) (by omega) (by omega) (by omega)
 refine ⟨r1, wrap64 (r2 - wrap64 (Int.tdiv r3 8)), ?_, hl⟩
 unfold spec_DrawDropClue.f spec_DrawDropClue_in.f
 exact Ev.bind (Ev.bind e1 (Ev.bindc e2 (Ev.bindc e3 (Ev.now _)))) (Ev.now _)
theorem drawIsClue_ev {l : List Int} (h : BytesL l) : ∃ x y z, Ev (fun k => spec_DrawIsClue.f k l) (x, y, z) := by
 have key : ∃ x y z a t, Ev (fun k => spec_DrawIsClue_in.f k l 0 0) (x, y, z, a, t) := by
  unfold spec_DrawIsClue_in.f
  obtain ⟨r1, a1, s1, e1, ha, ha'⟩ := cur_one h 0 (a := 0) (n := 4) (by omega) (by omega) (by omega) (by omega)
  by_cases c : r1 = true
  · obtain ⟨r2, a2, s2, e2, _, _, hb, hb'⟩ := cur_pick h s1 (a := a1) (n := 7) (by omega) (by omega) (by omega) (by omega)
    obtain ⟨r3, a3, s3, e3, _, _, hc, hc'⟩ := cur_pick h s2 (a := a2) (n := 9) (by omega) (by omega) (by omega) (by omega)
    obtain ⟨r4, a4, s4, e4, _, hd, hd'⟩ := cur_among h s3 (a := a3) [(-1), 0, 1, 4, 5, 6, 7, 24, 25, 4611686018427387904] (by omega) (by omega) (by simp) (by simp)
    obtain ⟨r5, a5, s5, e5, _, he, he'⟩ := cur_among h s4 (a := a4) [(-1), 0, 1, 2, 4, 5, 16, 17] (by omega) (by omega) (by simp) (by simp)
    exact ⟨_, _, _, _, _, Ev.bindc e1 (Ev.pos c (Ev.bindc e2 (Ev.bindc e3 (Ev.bindc e4 (Ev.bindc e5 (Ev.val rfl))))))⟩
  obtain ⟨x, y, z, a3, s3, e3, hc, hc'⟩ := cur_clue h s1 (a := a1) (by omega) (by omega)
  exact ⟨_, _, _, _, _, Ev.bindc e1 (Ev.neg c (Ev.bind e3 (Ev.val rfl)))⟩
 obtain ⟨x, y, z, a, t, e⟩ := key
 exact ⟨x, y, z, by unfold spec_DrawIsClue.f; exact Ev.bind e (Ev.now _)⟩
theorem drawDoesFit_ev {l : List Int} (h : BytesL l) : ∃ x y z r, Ev (fun k => spec_DrawDoesFit.f k l) (x, y, z, r) ∧ r.length ≤ 20 := by
 have key : ∃ x y z r a t, Ev (fun k => spec_DrawDoesFit_in.f k l 0 0) (x, y, z, r, a, t) ∧ r.length ≤ 20 := by
  unfold spec_DrawDoesFit_in.f
  obtain ⟨r1, a1, s1, e1, hl, ha, ha'⟩ := cur_hidden h 0 (a := 0) (by omega) (by omega)
  obtain ⟨r2, a2, s2, e2, hr0, hr1, hb, hb'⟩ := cur_pick h s1 (a := a1) (n := 10000) (by omega) (by omega) (by omega) (by omega)
  have e3 := spec_MakePuzzle.ev r1 1 r2 (by omega)
  by_cases c : (makeB r1 1 r2).2 = true
  · obtain ⟨r4, a4, s4, e4, hc, hc'⟩ := cur_one h s2 (a := a2) (n := 3) (by omega) (by omega) (by omega) (by omega)
    by_cases d : r4 = true
    · have hn : 0 < ((makeB r1 1 r2).1.length : Int) := by
       unfold makeB at c ⊢
       split at c
       · rename_i q; rw [if_pos q, mkB_length]; simp
       cases c
      exact ⟨_, _, _, _, _, _, Ev.bind e1 (Ev.bindc e2 (Ev.bind e3 (Ev.pos c (Ev.bindc e4 (Ev.pos d (Ev.pos hn (Ev.val rfl))))))), hl⟩
    obtain ⟨x, y, z, a5, s5, e5, hd, hd'⟩ := cur_clue h s4 (a := a4) (by omega) (by omega)
    exact ⟨_, _, _, _, _, _, Ev.bind e1 (Ev.bindc e2 (Ev.bind e3 (Ev.pos c (Ev.bindc e4 (Ev.neg d (Ev.bind e5 (Ev.val rfl))))))), hl⟩
  obtain ⟨x, y, z, a5, s5, e5, hd, hd'⟩ := cur_clue h s2 (a := a2) (by omega) (by omega)
  exact ⟨_, _, _, _, _, _, Ev.bind e1 (Ev.bindc e2 (Ev.bind e3 (Ev.neg c (Ev.bind e5 (Ev.val rfl))))), hl⟩
 obtain ⟨x, y, z, r, a, t, e, hl⟩ := key
 exact ⟨x, y, z, r, by unfold spec_DrawDoesFit.f; exact Ev.bind e (Ev.now _), hl⟩
theorem dhp_l {l : List Int} (x4 : List Int) (h4 : x4.length ≤ 4) (h1 : ∀ x ∈ x4, 1 ≤ x ∧ x ≤ 6) (hs : x4.sum ≤ 24) (a s : Int) : ∀ (d i : Nat) (acc : List S58), i + d = x4.length → acc.length ≤ 7 → ∃ r a' t, Ev (fun k => spec_DrawHarderPuzzle_in.l0 k x4 x4 (x4.length : Int) (i : Int) l a s acc) (r, a', t) ∧ r.length ≤ 8
 | 0, i, acc, hi, hc => ⟨acc, a, s, Ev.step (f := fun _ => some (acc, a, s)) (fun k => by rw [spec_DrawHarderPuzzle_in.l0, if_neg (by omega)]) (Ev.val rfl), by omega⟩
 | d + 1, i, acc, hi, hc => by
  have ew : wrap64 ((i : Int) + 1) = ((i + 1 : Nat) : Int) := by rw [w64 (by omega) (by omega)]; omega
  have hp : ∀ (j : Nat), j < x4.length → 0 ≤ rd x4 (j : Int) := fun j hj => by rw [rd_eq x4 j hj]; have := h1 _ (List.getElem_mem hj); omega
  by_cases c : (acc.length : Int) < 6
  · have pz := spec_pzOf.ev 5 (rd x4 (i : Int)) x4 (by omega) (by omega) (fun x hx => (h1 x hx).1) (by omega) (hp i (by omega))
    obtain ⟨r, a', t, e, g⟩ := dhp_l (l := l) x4 h4 h1 hs a s d (i + 1) (acc ++ [⟨(clueL 5 (rd x4 (i : Int)) x4).1, (clueL 5 (rd x4 (i : Int)) x4).2.1, (clueL 5 (rd x4 (i : Int)) x4).2.2⟩]) (by omega) (by simp; omega)
    obtain ⟨r', a2, t2, e', g'⟩ := dhp_l (l := l) x4 h4 h1 hs a s d (i + 1) acc (by omega) hc
    by_cases c0 : (i : Int) = 0
    · refine ⟨r, a', t, Ev.step (f := fun k => (spec_pzOf.f k 5 (rd x4 (i : Int)) x4).bind fun q => spec_DrawHarderPuzzle_in.l0 k x4 x4 (x4.length : Int) ((i + 1 : Nat) : Int) l a s (acc ++ [⟨q.1, q.2.1, q.2.2⟩])) (fun k => ?_) (Ev.bind pz e), g⟩
      rw [spec_DrawHarderPuzzle_in.l0, if_pos (by omega), if_pos (by omega), if_pos (by omega), if_pos c, if_pos c0, ew]
      exact congrArg _ (funext fun q => by rw [if_pos (by omega)])
    have ew1 : wrap64 ((i : Int) - 1) = ((i - 1 : Nat) : Int) := by rw [w64 (by omega) (by omega)]; omega
    by_cases c1 : rd x4 ((i - 1 : Nat) : Int) = rd x4 (i : Int)
    · refine ⟨r', a2, t2, Ev.step (f := fun k => spec_DrawHarderPuzzle_in.l0 k x4 x4 (x4.length : Int) ((i + 1 : Nat) : Int) l a s acc) (fun k => ?_) e', g'⟩
      rw [spec_DrawHarderPuzzle_in.l0, if_pos (by omega), if_pos (by omega), if_pos (by omega), if_pos c, if_neg c0, ew1, if_pos (by omega), if_pos (by omega), if_pos c1, ew]
    refine ⟨r, a', t, Ev.step (f := fun k => (spec_pzOf.f k 5 (rd x4 (i : Int)) x4).bind fun q => spec_DrawHarderPuzzle_in.l0 k x4 x4 (x4.length : Int) ((i + 1 : Nat) : Int) l a s (acc ++ [⟨q.1, q.2.1, q.2.2⟩])) (fun k => ?_) (Ev.bind pz e), g⟩
    rw [spec_DrawHarderPuzzle_in.l0, if_pos (by omega), if_pos (by omega), if_pos (by omega), if_pos c, if_neg c0, ew1, if_pos (by omega), if_pos (by omega), if_neg c1, ew]
    exact congrArg _ (funext fun q => by rw [if_pos (by omega)])
  obtain ⟨r', a2, t2, e', g'⟩ := dhp_l (l := l) x4 h4 h1 hs a s d (i + 1) acc (by omega) hc
  refine ⟨r', a2, t2, Ev.step (f := fun k => spec_DrawHarderPuzzle_in.l0 k x4 x4 (x4.length : Int) ((i + 1 : Nat) : Int) l a s acc) (fun k => ?_) e', g'⟩
  rw [spec_DrawHarderPuzzle_in.l0, if_pos (by omega), if_pos (by omega), if_pos (by omega), if_neg c, ew]
theorem drawHarderPuzzle_ev {l : List Int} (h : BytesL l) : ∃ r, Ev (fun k => spec_DrawHarderPuzzle.f k l) r ∧ r.length ≤ 8 := by
 have key : ∃ r a t, Ev (fun k => spec_DrawHarderPuzzle_in.f k l 0 0) (r, a, t) ∧ r.length ≤ 8 := by
  unfold spec_DrawHarderPuzzle_in.f
  obtain ⟨r1, a1, s1, e1, hl, ha, ha'⟩ := cur_hidden h 0 (a := 0) (by omega) (by omega)
  obtain ⟨r2, a2, s2, e2, hr0, hr1, hb, hb'⟩ := cur_pick h s1 (a := a1) (n := 3) (by omega) (by omega) (by omega) (by omega)
  obtain ⟨r3, a3, s3, e3, _, _, hc, hc'⟩ := cur_pick h s2 (a := a2) (n := 10000) (by omega) (by omega) (by omega) (by omega)
  have e4 := spec_MakePuzzle.ev r1 r2 r3 (by omega)
  have hm := makeB_length r1 r2 r3
  have hj : ∀ {a : Int} (s : Int), 0 ≤ a → a ≤ 400000000000 → ∃ r a' t, Ev (fun k => spec_DrawHarderPuzzle_in.j0 k r1 true l a s (makeB r1 r2 r3).1) (r, a', t) ∧ r.length ≤ 8 := fun {a} s h0 h1 => by
   obtain ⟨r5, a5, s5, e5, g5, _, _⟩ := cur_puzzle h s (a := a) (by omega) (by omega)
   exact ⟨r5, a5, s5, Ev.step (f := fun k => (spec_l1Cur_puzzle.f k l a s).bind fun b => some (b.1, b.2.1, b.2.2)) (fun k => by rw [spec_DrawHarderPuzzle_in.j0, if_pos rfl]) (Ev.bind e5 (Ev.val rfl)), g5⟩
  by_cases c : (makeB r1 r2 r3).2 = true
  · have hh : hiddenB r1 = true := by
     unfold makeB at c
     split at c
     · rename_i q; exact q.1
     cases c
    obtain ⟨f1, f2, f3⟩ := hiddenB_facts hh
    obtain ⟨r5, a5, s5, e5, hd, hd'⟩ := cur_one h s3 (a := a3) (n := 4) (by omega) (by omega) (by omega) (by omega)
    cases r5 with
    | true =>
     obtain ⟨r, a', t, e, g⟩ := hj s5 (a := a5) (by omega) (by omega)
     exact ⟨r, a', t, Ev.bind e1 (Ev.bindc e2 (Ev.bindc e3 (Ev.bind e4 (Ev.pos c (Ev.bindc e5 e))))), g⟩
    | false =>
     obtain ⟨r, a', t, e, g⟩ := dhp_l (l := l) r1 f1 f2 f3 a5 s5 r1.length 0 ((makeB r1 r2 r3).1 ++ [⟨(clueL 0 0 r1).1, (clueL 0 0 r1).2.1, (clueL 0 0 r1).2.2⟩]) (by omega) (by simp; omega)
     have e6 : Ev (fun k => spec_DrawHarderPuzzle_in.j0 k r1 false l a5 s5 (makeB r1 r2 r3).1) (r, a', t) := by
      refine Ev.step (f := fun k => (spec_pzOf.f k 0 0 r1).bind fun q => spec_DrawHarderPuzzle_in.l0 k r1 r1 (r1.length : Int) ((0 : Nat) : Int) l a5 s5 ((makeB r1 r2 r3).1 ++ [⟨q.1, q.2.1, q.2.2⟩])) (fun k => ?_) (Ev.bind (spec_pzOf.ev 0 0 r1 (by omega) (by omega) (fun x hx => (f2 x hx).1) (by omega) (by omega)) e)
      rw [spec_DrawHarderPuzzle_in.j0, if_neg (by decide)]
      exact congrArg _ (funext fun q => by rw [if_pos (by omega)]; rfl)
     exact ⟨r, a', t, Ev.bind e1 (Ev.bindc e2 (Ev.bindc e3 (Ev.bind e4 (Ev.pos c (Ev.bindc e5 e6))))), g⟩
  obtain ⟨r, a', t, e, g⟩ := hj s3 (a := a3) (by omega) (by omega)
  exact ⟨r, a', t, Ev.bind e1 (Ev.bindc e2 (Ev.bindc e3 (Ev.bind e4 (Ev.neg c e)))), g⟩
 obtain ⟨r, a, t, e, hl⟩ := key
 exact ⟨r, by unfold spec_DrawHarderPuzzle.f; exact Ev.bind e (Ev.now _), hl⟩
theorem laws_jSame.ev_l (s t : List Int) : ∀ (p : List Int), p.length + s.length ≤ 35184372088832 → s.length = t.length → ∀ q : List Int, q.length = p.length → Ev (fun k => laws_jSame.l0 k (p ++ s) (q ++ t) ((p ++ s).length : Int) (p.length : Int)) (decide (s = t)) := by
 induction s generalizing t with
 | nil =>
  intro p hp ht q hq
  obtain rfl : t = [] := List.eq_nil_of_length_eq_zero (by simpa using ht.symm)
  refine Ev.step (f := fun _ => some true) (fun k => ?_) (Ev.val (by simp))
  rw [laws_jSame.l0, if_neg (by simp)]
 | cons x s ih =>
  intro p hp ht q hq
  obtain _ | ⟨y, t⟩ := t
  · simp at ht
  simp only [List.length_cons] at ht hp
  have e1 : rd (p ++ x :: s) (p.length : Int) = x := rd_app p x s
  have e2 : rd (q ++ y :: t) (p.length : Int) = y := by rw [← hq]; exact rd_app q y t
  by_cases e : x = y
  · subst e
    have h := ih t (p ++ [x]) (by simp <;> omega) (by omega) (q ++ [x]) (by simp [hq])
    refine Ev.step (f := fun k => laws_jSame.l0 k ((p ++ [x]) ++ s) ((q ++ [x]) ++ t) (((p ++ [x]) ++ s).length : Int) ((p ++ [x]).length : Int)) (fun k => ?_) (Ev.eq h (by simp))
    rw [laws_jSame.l0, if_pos (by simp <;> omega), if_pos (by omega), if_pos (by simp <;> omega), if_pos (by simp <;> omega), e1, e2, if_pos rfl, w64 (by omega) (by omega)]
    simp
  refine Ev.step (f := fun _ => some false) (fun k => ?_) (Ev.val (by simp [e]))
  rw [laws_jSame.l0, if_pos (by simp <;> omega), if_pos (by omega), if_pos (by simp <;> omega), if_pos (by simp <;> omega), e1, e2, if_neg e]
theorem laws_jSame.ev (s t : List Int) (hl : s.length ≤ 35184372088832) : Ev (fun k => laws_jSame.f k s t) (decide (s = t)) := by
 unfold laws_jSame.f
 refine Ev.ite (fun h => ?_) (fun h => Ev.val ?_)
 · exact laws_jSame.ev_l s t [] (by simpa using hl) (by omega) [] rfl
 have : s ≠ t := by rintro rfl; exact h rfl
 simp [this]
theorem big_no {l0 l1 : List Int} (h : ¬ laws_big.f l0 l1 = some true) : l0.length ≤ 1048576 ∧ l1.length ≤ 1048576 ∧ laws_big.f l0 l1 = some false := by
 unfold laws_big.f at h ⊢
 by_cases c : (l0.length : Int) > 1048576
 · rw [if_pos c] at h; exact absurd rfl h
 rw [if_neg c] at h ⊢
 rw [w64 (by omega) (by omega)] at h ⊢
 by_cases d : (l1.length : Int) > 1048576 - (l0.length : Int)
 · rw [decide_eq_true d] at h; exact absurd rfl h
 exact ⟨by omega, by omega, by rw [decide_eq_false d]⟩
/-! ### Bytes cut at a byte; decimal numbers read -/
theorem laws_jClues.same_l (s : List S58) : ∀ (p : List S58), p.length + s.length ≤ 1000000 → Ev (fun k => laws_jClues.l0 k (p ++ s) (p ++ s) ((p ++ s).length : Int) (p.length : Int)) true := by
 induction s with
 | nil =>
  intro p hp
  refine Ev.step (f := fun _ => some true) (fun k => ?_) (Ev.val rfl)
  rw [laws_jClues.l0, if_neg (by simp)]
 | cons x s ih =>
  intro p hp
  simp only [List.length_cons] at hp
  have h := ih (p ++ [x]) (by simp <;> omega)
  refine Ev.step (f := fun k => laws_jClues.l0 k ((p ++ [x]) ++ s) ((p ++ [x]) ++ s) (((p ++ [x]) ++ s).length : Int) ((p ++ [x]).length : Int)) (fun k => ?_) h
  rw [laws_jClues.l0, if_pos (by simp <;> omega), if_pos (by omega), if_pos (by simp <;> omega), if_pos (by simp <;> omega), if_neg (by simp), w64 (by omega) (by omega)]
  simp
theorem laws_jClues.same (s : List S58) (h : s.length ≤ 1000000) : Ev (fun k => laws_jClues.f k s s) true := by
 unfold laws_jClues.f
 exact Ev.pos rfl (laws_jClues.same_l s [] (by simpa using h))
theorem rdL_app (p : List (List Int)) (x : List Int) (s : List (List Int)) : rd_L3 (p ++ x :: s) (p.length : Int) = x := by simp [rd_L3, List.getD_eq_getElem?_getD]
theorem laws_jRows.same_l (s : List (List Int)) : ∀ (p : List (List Int)), (∀ x ∈ s, x.length ≤ 1000000) → p.length + s.length ≤ 1000000 → Ev (fun k => laws_jRows.l0 k (p ++ s) (p ++ s) ((p ++ s).length : Int) (p.length : Int)) true := by
 induction s with
 | nil =>
  intro p _ hp
  refine Ev.step (f := fun _ => some true) (fun k => ?_) (Ev.val rfl)
  rw [laws_jRows.l0, if_neg (by simp)]
 | cons x s ih =>
  intro p hx hp
  simp only [List.length_cons] at hp
  have h := ih (p ++ [x]) (fun y hy => hx y (by simp [hy])) (by simp <;> omega)
  have hs : Ev (fun k => laws_jSame.f k x x) true := Ev.eq (laws_jSame.ev x x (by have := hx x (by simp); omega)) (by simp)
  refine Ev.step (f := fun k => (laws_jSame.f k x x).bind fun t => if t = true then laws_jRows.l0 k ((p ++ [x]) ++ s) ((p ++ [x]) ++ s) (((p ++ [x]) ++ s).length : Int) ((p ++ [x]).length : Int) else some false) (fun k => ?_) (Ev.bind hs (Ev.pos rfl h))
  rw [laws_jRows.l0, if_pos (by simp <;> omega), if_pos (by omega), if_pos (by simp <;> omega), if_pos (by simp <;> omega), rdL_app, w64 (by omega) (by omega)]
  simp
theorem laws_jRows.same (s : List (List Int)) (hx : ∀ x ∈ s, x.length ≤ 1000000) (h : s.length ≤ 1000000) : Ev (fun k => laws_jRows.f k s s) true := by
 unfold laws_jRows.f
 exact Ev.pos rfl (laws_jRows.same_l s [] hx (by simpa using h))
theorem sol_small (cs : List S58) : (solB cs).length ≤ 1000000 ∧ ∀ x ∈ solB cs, x.length ≤ 1000000 := by
 have h : (solB cs).length ≤ (hidL 4 [] 1).length := (List.filter_sublist).length_le
 have h2 : (hidL 4 [] 1).length ≤ 1000000 := by decide +kernel
 exact ⟨by omega, fun x hx => by have := (hid_facts (List.mem_filter.1 hx).1).1; omega⟩
theorem erase_last {α : Type} (ys : List α) (y : α) : (ys ++ [y]).eraseIdx ys.length = ys := by
 induction ys with
 | nil => rfl
 | cons x ys ih => simp [ih]
theorem hd_p116 (l47 : List S58) (q : Int) (hl : l47.length ≤ 8) : Ev (fun k => laws_FnPiecesHidden.p116 k l47 q (dropClueB l47 q).1 (dropClueB l47 q).2) true := by
 unfold laws_FnPiecesHidden.p116
 have ew : wrap64 ((l47.length : Int) - 1) = (l47.length : Int) - 1 := w64 (by omega) (by omega)
 by_cases c : puzzleB l47 = true ∧ 0 ≤ q ∧ q < l47.length
 · have e : dropClueB l47 q = (l47.eraseIdx q.toNat, true) := by rw [dropClueB, if_pos c]
   rw [e]
   refine Ev.bind (Ev.pos rfl (Ev.val rfl)) ?_
   rw [ew]
   refine Ev.ite (fun d => ?_) (fun _ => Ev.val rfl)
   have d' : q = (l47.length : Int) - 1 := by simpa using d
   refine Ev.pos (by simp; omega) ?_
   obtain ⟨ys, y, rfl⟩ : ∃ ys y, l47 = ys ++ [y] := by
    rcases List.eq_nil_or_concat l47 with h | ⟨ys, y, h⟩
    · subst h; simp at c; omega
    exact ⟨ys, y, by simpa using h⟩
   have eq : q = (ys.length : Int) := by simp at d'; omega
   subst eq
   have e1 : (ys ++ [y]).eraseIdx (ys.length : Int).toNat = ys := by rw [Int.toNat_natCast]; exact erase_last ys y
   have e2 : rd_T58 (ys ++ [y]) (ys.length : Int) = y := by simp [rd_T58, List.getD_eq_getElem?_getD]
   rw [e1, e2]
   have hp := c.1
   unfold puzzleB at hp
   simp only [List.all_append, List.all_cons, List.all_nil, Bool.and_true, Bool.and_eq_true, decide_eq_true_eq, List.length_append, List.length_cons, List.length_nil] at hp
   have e3 : addClueB ys y.f0 y.f1 y.f2 = (ys ++ [y], true) := by
    unfold addClueB
    rw [if_pos ⟨by unfold puzzleB; simp only [Bool.and_eq_true, decide_eq_true_eq]; exact ⟨by omega, hp.2.1⟩, hp.2.2, by omega⟩]
   refine Ev.bind (Ev.eq (impl_AddClue.ev ys y.f0 y.f1 y.f2 (by omega)) e3) ?_
   exact Ev.bind (Ev.pos rfl (Ev.bind (laws_jClues.same (ys ++ [y]) (by simp; omega)) (Ev.now _))) (Ev.now _)
 have e : dropClueB l47 q = ([], false) := by rw [dropClueB, if_neg c]
 rw [e]
 exact Ev.bind (Ev.neg (by decide) (Ev.val rfl)) (Ev.neg (by decide) (Ev.val rfl))
theorem hd_p84 {l1 : List Int} (B1 : BytesL l1) (l41 : List S58) (a b c : Int) (hl : l41.length ≤ 8) (l47 : List S58) (q : Int) (hl2 : l47.length ≤ 8) :
 Ev (fun k => laws_FnPiecesHidden.p84 k l1 l41 a b c (addClueB l41 a b c).1 (addClueB l41 a b c).2 (addClueB l41 a b c).1 (addClueB l41 a b c).2 l47 q (dropClueB l47 q).1 (dropClueB l47 q).2 (dropClueB l47 q).1 (dropClueB l47 q).2) true := by
 unfold laws_FnPiecesHidden.p84
 obtain ⟨x, y, z, r, hD, hr⟩ := drawDoesFit_ev B1
 obtain ⟨x2, y2, z2, hI⟩ := drawIsClue_ev B1
 have ha := addClueB_length l41 a b c
 have hd := dropClueB_length l47 q
 have hF := impl_DoesFit.ev x y z r (by omega)
 have hF2 := spec_DoesFit.ev x y z r (by omega)
 refine Ev.bind hD (Ev.bind hF (Ev.bind hF2 (Ev.bind hI (Ev.neg (by simp) (Ev.bind (laws_jClues.same _ (by omega)) (Ev.neg (by decide) (Ev.neg (by simp) (Ev.bind (laws_jClues.same _ (by omega)) (Ev.neg (by decide) (Ev.neg (by simp) (Ev.neg (by simp) (Ev.bind (impl_IsClue.ev x2 y2 z2) (Ev.bind (spec_IsClue.ev x2 y2 z2) (Ev.neg (by simp) ?_))))))))))))))
 dsimp only
 refine Ev.bind (a := false) ?_ (Ev.neg (by decide) ?_)
 · refine Ev.ite (fun h => ?_) (fun _ => Ev.val rfl)
   refine Ev.bind (impl_IsClue.ev x y z) (Ev.val ?_)
   unfold doesFitB at h
   split at h
   · rename_i g; rw [g.1]; rfl
   cases h
 refine Ev.ite (fun h => ?_) (fun _ => hd_p116 l47 q hl2)
 have g : puzzleB l41 = true ∧ clueB a b c = true ∧ l41.length ≠ 6 := by
  unfold addClueB at h
  split at h
  · assumption
  cases h
 have e : addClueB l41 a b c = (l41 ++ [⟨a, b, c⟩], true) := by rw [addClueB, if_pos g]
 rw [e]
 have gl := puzzleB_length g.1
 have gp := g.1
 unfold puzzleB at gp
 simp only [Bool.and_eq_true, decide_eq_true_eq] at gp
 have e2 : dropClueB (l41 ++ [⟨a, b, c⟩]) (l41.length : Int) = (l41, true) := by
  unfold dropClueB
  have hq : puzzleB (l41 ++ [⟨a, b, c⟩]) = true := by
   unfold puzzleB
   simp only [List.all_append, List.all_cons, List.all_nil, Bool.and_true, Bool.and_eq_true, decide_eq_true_eq, List.length_append, List.length_cons, List.length_nil]
   exact ⟨by omega, gp.2, g.2.1⟩
  rw [if_pos ⟨hq, by omega, by simp; omega⟩, Int.toNat_natCast, erase_last]
 refine Ev.bind (Ev.eq (impl_DropClue.ev _ _) e2) (Ev.pos rfl (Ev.bind (laws_jClues.same l41 (by omega)) (Ev.neg (by decide) (Ev.pos (by simp; omega) (Ev.neg ?_ (hd_p116 l47 q hl2))))))
 have e3 : rd_T58 (l41 ++ [⟨a, b, c⟩]) (l41.length : Int) = ⟨a, b, c⟩ := by simp [rd_T58, List.getD_eq_getElem?_getD]
 rw [e3]; simp
theorem hd_p71 {l1 : List Int} (B1 : BytesL l1) : Ev (fun k => laws_FnPiecesHidden.p71 k l1) true := by
 unfold laws_FnPiecesHidden.p71
 obtain ⟨r, x, y, z, hA, hr⟩ := drawAddClue_ev B1
 obtain ⟨r2, q, hD, hr2⟩ := drawDropClue_ev B1
 refine Ev.bind hA (Ev.bind (impl_AddClue.ev r x y z (by omega)) (Ev.bind (spec_AddClue.ev r x y z (by omega)) (Ev.bind hD (Ev.bind (impl_DropClue.ev r2 q) (Ev.bind (spec_DropClue.ev r2 q) ?_)))))
 exact hd_p84 B1 r x y z hr r2 q hr2
theorem hard_puzzle {cs : List S58} (h : puzzleB cs = true) : puzzleB (hardR cs.length cs 0) = true := by
 have h1 := puzzle_all h
 have h2 := puzzle_len h
 have h3 := hardR_sub cs.length cs 0
 unfold puzzleB
 simp only [Bool.and_eq_true, decide_eq_true_eq]
 exact ⟨by have := h3.length_le; omega, List.all_eq_true.2 (fun x hx => List.all_eq_true.1 h1 x (h3.subset hx))⟩
theorem hd_p46 {l1 : List Int} (B1 : BytesL l1) : Ev (fun k => laws_FnPiecesHidden.p46 k l1) true := by
 unfold laws_FnPiecesHidden.p46
 obtain ⟨cs, hH, hr⟩ := drawHarderPuzzle_ev B1
 have hhl := hardB_length cs
 refine Ev.bind hH (Ev.bind (impl_HarderPuzzle.ev cs) (Ev.bind (spec_HarderPuzzle.ev cs) (Ev.bind (impl_IsSolved.ev cs) (Ev.neg (by simp) (Ev.bind (laws_jClues.same _ (by omega)) (Ev.neg (by decide) ?_))))))
 refine Ev.bind (a := (hardB cs).2) ?_ (Ev.neg (by simp) (Ev.ite (fun h => ?_) (fun _ => hd_p71 B1)))
 · unfold solvedB hardB
   by_cases c : puzzleB cs = true
   · rw [if_pos c]
     refine Ev.pos rfl (Ev.val ?_)
     by_cases d : ((solB cs).length : Int) = 1
     · rw [if_pos ⟨c, d⟩, d]; rfl
     rw [if_neg (fun q => d q.2)]; simpa using d
   rw [if_neg c, if_neg (show ¬ (puzzleB cs = true ∧ ((solB cs).length : Int) = 1) from fun q => c q.1)]
   exact Ev.neg (by simp) (Ev.val rfl)
 have g : puzzleB cs = true ∧ ((solB cs).length : Int) = 1 := by
  unfold hardB at h
  split at h
  · assumption
  cases h
 have e : hardB cs = (hardR cs.length cs 0, true) := by rw [hardB, if_pos g]
 have h1 : (solB cs).length = 1 := by have := g.2; omega
 have hp := hard_puzzle g.1
 have hsub := (hardR_sub cs.length cs 0).length_le
 obtain ⟨s1, s2⟩ := sol_small cs
 rw [e]
 have f1 : Ev (fun k => impl_Solutions.f k cs) (solB cs, true) := Ev.eq (impl_Solutions.ev cs) (by rw [if_pos g.1])
 have f2 : Ev (fun k => impl_Solutions.f k (hardR cs.length cs 0)) (solB cs, true) := Ev.eq (impl_Solutions.ev _) (by rw [if_pos hp, hardR_same cs h1])
 have f3 : Ev (fun k => impl_NeedlessClues.f k (hardR cs.length cs 0)) ([], true) := Ev.eq (impl_NeedlessClues.ev _) (by rw [needB, if_pos hp, hardR_needless cs h1])
 exact Ev.bind f1 (Ev.bind f2 (Ev.bind f3 (Ev.pos rfl (Ev.pos rfl (Ev.bind (laws_jRows.same _ s2 s1) (Ev.neg (by decide) (Ev.pos rfl (Ev.neg (by simp) (Ev.neg (by simp; omega) (hd_p71 B1))))))))))

theorem runL_in : ∀ (l : List Int) (a : Int), (∀ x ∈ l, 0 ≤ x) → a ≤ runL l a ∧ runL l a ≤ a + l.sum
 | [], a, _ => by simp [runL]
 | x :: l, a, h => by
  have h1 := runL_in l (a + x) (fun y hy => h y (by simp [hy]))
  have hx := h x (by simp)
  have hs := sum_nonneg l (fun y hy => h y (by simp [hy]))
  rw [runL, List.sum_cons]
  split <;> omega
theorem hd_clue {l : List Int} (h : hiddenB l = true) {k a : Int} (hk : 0 ≤ k ∧ k ≤ 5) (h0 : k = 2 ∨ k = 4 → 0 ≤ a ∧ a ≤ 24) (h5 : k = 5 → 1 ≤ a ∧ a ≤ 6) :
 doesFitB (clueL k a l).1 (clueL k a l).2.1 (clueL k a l).2.2 l = (true, true) ∧ clueB (clueL k a l).1 (clueL k a l).2.1 (clueL k a l).2.2 = true := by
 obtain ⟨f1, f2, f3⟩ := hiddenB_facts h
 have hs := sum_nonneg l (fun x hx => by have := f2 x hx; omega)
 have c1 := cnt_nonneg l a
 have c2 := cnt_le l a
 have c3 : (2 : Int) ^ l.length ≤ 16 := by
  rcases (show l.length = 0 ∨ l.length = 1 ∨ l.length = 2 ∨ l.length = 3 ∨ l.length = 4 by omega) with e | e | e | e | e <;> rw [e] <;> decide
 have c4 := List.count_le_length (a := a) (l := l)
 have hr := runL_in l 0 (fun x hx => by have := f2 x hx; omega)
 have key : clueB (clueL k a l).1 (clueL k a l).2.1 (clueL k a l).2.2 = true ∧ pzFitsB (clueL k a l).1 (clueL k a l).2.1 (clueL k a l).2.2 l = true := by
  rcases (show k = 0 ∨ k = 1 ∨ k = 2 ∨ k = 3 ∨ k = 4 ∨ k = 5 by omega) with e | e | e | e | e | e <;> subst e
  · simp [clueL, clueB, inB, pzFitsB, pzV]; omega
  · simp [clueL, clueB, inB, pzFitsB, pzV]; omega
  · have := h0 (.inl rfl)
    by_cases d : cnt l a < 1 <;> simp [clueL, clueB, inB, pzFitsB, pzV, d] <;> omega
  · simp [clueL, clueB, inB, pzFitsB, pzV]; omega
  · have := h0 (.inr rfl)
    simp [clueL, clueB, inB, pzFitsB, pzV]; omega
  have := h5 rfl
  simp [clueL, clueB, inB, pzFitsB, pzV]; omega
 exact ⟨by rw [doesFitB, if_pos ⟨key.1, h⟩, key.2], key.1⟩
theorem mkArg_in (z : Int) : (Int.tmod (nxtZ z) 6 ≠ 5 → 0 ≤ mkArg z ∧ mkArg z ≤ 24) ∧ (Int.tmod (nxtZ z) 6 = 5 → 1 ≤ mkArg z ∧ mkArg z ≤ 6) := by
 have h2 := nxtZ_in (nxtZ z)
 have k2 := kind_in (nxtZ z)
 refine ⟨fun h => ?_, fun h => ?_⟩
 · rw [mkArg, if_neg h, Int.tmod_eq_emod_of_nonneg h2.1]; omega
 rw [mkArg, if_pos h, w64 (by omega) (by omega)]; omega
def FitsC (l : List Int) (c : S58) : Prop := doesFitB c.f0 c.f1 c.f2 l = (true, true) ∧ clueB c.f0 c.f1 c.f2 = true
theorem mkB_all {l : List Int} (h : hiddenB l = true) : ∀ (d : Nat) (z : Int) (acc : List S58), (∀ c ∈ acc, FitsC l c) → ∀ c ∈ mkB l d z acc, FitsC l c
 | 0, _, _, hc => hc
 | d + 1, z, acc, hc => by
  rw [mkB]
  refine mkB_all h d _ _ (fun c hcc => ?_)
  rcases List.mem_append.1 hcc with g | g
  · exact hc c g
  have e := List.mem_singleton.1 g
  subst e
  have ha := mkArg_in z
  exact hd_clue h (kind_in z) (fun q => ha.1 (by omega)) (fun q => ha.2 q)
theorem hd_l37 {l1 : List Int} (B1 : BytesL l1) (l : List Int) (hl : l.length ≤ 20) (cs : List S58) (hc : ∀ c ∈ cs, FitsC l c) (hcl : cs.length ≤ 6) : ∀ (d i : Nat), i + d = cs.length → ∃ K, ∀ k n, K ≤ k → K ≤ n → laws_FnPiecesHidden.l37 k n l1 l cs (cs.length : Int) (i : Int) = some true
 | 0, i, hi => by
  obtain ⟨K, hK⟩ := hd_p46 B1
  replace hK : ∀ k, K ≤ k → laws_FnPiecesHidden.p46 k l1 = some true := hK
  refine ⟨K + 1, fun k n hk hn => ?_⟩
  obtain ⟨m, rfl⟩ : ∃ m, n = m + 1 := ⟨n - 1, by omega⟩
  rw [laws_FnPiecesHidden.l37, if_neg (by simp; omega)]
  exact hK k (by omega)
 | d + 1, i, hi => by
  obtain ⟨K, hK⟩ := hd_l37 B1 l hl cs hc hcl d (i + 1) (by omega)
  have hlt : i < cs.length := by omega
  have e1 : rd_T58 cs (i : Int) = cs[i] := by simp [rd_T58, List.getD_eq_getElem?_getD, List.getElem?_eq_getElem hlt]
  have hf := (hc cs[i] (List.getElem_mem hlt)).1
  obtain ⟨K1, h1⟩ := impl_DoesFit.ev cs[i].f0 cs[i].f1 cs[i].f2 l (by omega)
  replace h1 : ∀ k, K1 ≤ k → impl_DoesFit.f k cs[i].f0 cs[i].f1 cs[i].f2 l = some (doesFitB cs[i].f0 cs[i].f1 cs[i].f2 l) := h1
  refine ⟨K + K1 + 1, fun k n hk hn => ?_⟩
  obtain ⟨m, rfl⟩ : ∃ m, n = m + 1 := ⟨n - 1, by omega⟩
  have ew : wrap64 ((i : Int) + 1) = ((i + 1 : Nat) : Int) := by rw [w64 (by omega) (by omega)]; omega
  rw [laws_FnPiecesHidden.l37, if_pos (by simp; omega), if_pos (by simp; omega), e1, h1 k (by omega), Option.bind_some, hf, if_pos rfl, if_pos rfl]
  unfold laws_FnPiecesHidden.p45
  rw [ew]
  exact hK k m (by omega) (by omega)
theorem FnPiecesHidden : laws_FnPiecesHidden.Pure := by
 intro l0 l1 _ _ w0 _ _ w1
 refine Ev.rounds (g := fun k => laws_FnPiecesHidden.f k l0 l1) ?_
 unfold laws_FnPiecesHidden.f laws_FnPiecesHidden.p1
 by_cases hb : laws_big.f l0 l1 = some true
 · exact Ev.bindc hb (Ev.pos rfl (Ev.val rfl))
 obtain ⟨hl0, hl1, hb⟩ := big_no hb
 refine Ev.bindc hb (Ev.neg (by decide) ?_)
 have B0 := bytes_of hl0 w0
 have B1 := bytes_of hl1 w1
 obtain ⟨l, m, s, hD, hl⟩ := drawMakePuzzle_ev B0
 have hml := makeB_length l m s
 refine Ev.bind hD (Ev.bind (impl_MakePuzzle.ev l m s (by omega)) (Ev.bind (spec_MakePuzzle.ev l m s (by omega)) (Ev.neg (by simp) (Ev.bind (laws_jClues.same _ (by omega)) (Ev.neg (by decide) (Ev.bind (impl_IsHidden.ev l (by omega)) (Ev.bind (spec_IsHidden.ev l (by omega)) (Ev.neg (by simp) ?_))))))))
 refine Ev.bind (a := false) ?_ (Ev.neg (by decide) ?_)
 · refine Ev.ite (fun h => ?_) (fun _ => Ev.val rfl)
   refine Ev.bind (impl_IsHidden.ev l (by omega)) (Ev.val ?_)
   have h' : (makeB l m s).2 = true := h
   unfold makeB at h'
   split at h'
   · rename_i g; rw [g.1]; rfl
   cases h'
 refine Ev.ite (fun h => ?_) (fun _ => hd_p46 B1)
 have g : hiddenB l = true ∧ 0 ≤ m ∧ m ≤ 6 ∧ 0 ≤ s ∧ s ≤ 9999 := by
  have h' : (makeB l m s).2 = true := h
  unfold makeB at h'
  split at h'
  · assumption
  cases h'
 have e : makeB l m s = (mkB l m.toNat s [], true) := by rw [makeB, if_pos g]
 rw [e]
 obtain ⟨f1, f2, f3⟩ := hiddenB_facts g.1
 have hall := mkB_all g.1 m.toNat s [] (fun c hc => by cases hc)
 have hlen := mkB_length l m.toNat s []
 simp only [List.length_nil, Nat.zero_add] at hlen
 have hgood : piGoodB l = true := by
  have hh := g.1
  unfold hiddenB at hh
  unfold piGoodB
  simp only [Bool.and_eq_true, decide_eq_true_eq, List.all_eq_true] at hh ⊢
  exact ⟨⟨by omega, fun x hx => by have := f2 x hx; omega⟩, hh.2⟩
 have hn : ∀ x ∈ l, 0 ≤ x := fun x hx => by have := f2 x hx; omega
 have hA := impl_ArePieces.ev l (by omega)
 rw [hgood] at hA
 have i1 : Ev (fun k => impl_SumOfPieces.f k l) (l.sum, true) := by
  unfold impl_SumOfPieces.f
  exact Ev.bind hA (Ev.pos rfl (Ev.bind (impl_total.ev l (by omega) hn (by omega)) (Ev.val rfl)))
 have i2 : Ev (fun k => impl_RunOf.f k l) (runL l 0, true) := by
  unfold impl_RunOf.f
  exact Ev.bind hA (Ev.pos rfl (Ev.bind (impl_run.ev l (by omega) hn (by omega)) (Ev.val rfl)))
 have i3 : Ev (fun k => impl_WaysOf.f k l 5) (cnt l 5, true) := by
  unfold impl_WaysOf.f impl_isSum.f
  refine Ev.bind (a := true) (Ev.bind hA (Ev.pos rfl (Ev.bindc (impl_within.valB 5 0 200000) (Ev.val (by decide))))) (Ev.pos rfl (Ev.bind (impl_waysOf.ev l 5 (by omega) (fun x hx => (f2 x hx).1) (by omega) (by omega)) (Ev.val rfl)))
 have d1 : doesFitB 1 l.sum 0 l = (true, true) := (hd_clue g.1 (k := 1) (a := 0) (by omega) (fun q => by omega) (fun q => by omega)).1
 have d2 : doesFitB 3 (runL l 0) 0 l = (true, true) := (hd_clue g.1 (k := 3) (a := 0) (by omega) (fun q => by omega) (fun q => by omega)).1
 have d3 : doesFitB 4 5 (cnt l 5) l = (true, true) := (hd_clue g.1 (k := 4) (a := 5) (by omega) (fun q => by omega) (fun q => by omega)).1
 have hp : puzzleB (mkB l m.toNat s []) = true := by
  unfold puzzleB
  simp only [Bool.and_eq_true, decide_eq_true_eq]
  exact ⟨by omega, List.all_eq_true.2 (fun c hc => (hall c hc).2)⟩
 refine Ev.bind i1 (Ev.bind i2 (Ev.bind i3 (Ev.bind (Ev.eq (impl_DoesFit.ev 1 l.sum 0 l (by omega)) d1) (Ev.bind (Ev.eq (impl_DoesFit.ev 3 (runL l 0) 0 l (by omega)) d2) (Ev.bind (Ev.eq (impl_DoesFit.ev 4 5 (cnt l 5) l (by omega)) d3) (Ev.bind (Ev.eq (impl_IsPuzzle.ev _) hp) (Ev.neg (by decide) (Ev.neg ?_ (Ev.pos rfl (Ev.pos rfl (Ev.pos rfl (Ev.pos rfl (Ev.pos rfl (Ev.pos rfl (Ev.pos rfl (Ev.pos rfl (Ev.pos rfl ?_)))))))))))))))))
 · have : ((mkB l m.toNat s []).length : Int) = m := by omega
   simp [this]
 obtain ⟨K, hK⟩ := hd_l37 B1 l hl (mkB l m.toNat s []) hall (by omega) (mkB l m.toNat s []).length 0 (by omega)
 exact ⟨K, fun k hk => hK k k hk hk⟩
end Go.Proofs.Ytgeoihhibglhgaa.Pure
