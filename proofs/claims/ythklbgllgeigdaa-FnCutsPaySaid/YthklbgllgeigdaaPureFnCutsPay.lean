/- For all arguments within the row's reach the law FnCutsPay answers true.
No further conditions. -/
import Derived.Test.YthklbgllgeigdaaPFnCutsPayx0
import Derived.Test.YthklbgllgeigdaaPFnCutsPayx1
import Derived.Test.YthklbgllgeigdaaPFnCutsPayx10
import Derived.Test.YthklbgllgeigdaaPFnCutsPayx2
import Derived.Test.YthklbgllgeigdaaPFnCutsPayx3
import Derived.Test.YthklbgllgeigdaaPFnCutsPayx4
import Derived.Test.YthklbgllgeigdaaPFnCutsPayx5
import Derived.Test.YthklbgllgeigdaaPFnCutsPayx6
import Derived.Test.YthklbgllgeigdaaPFnCutsPayx7
import Derived.Test.YthklbgllgeigdaaPFnCutsPayx8
import Derived.Test.YthklbgllgeigdaaPFnCutsPayx9
set_option linter.unusedVariables false
set_option linter.unusedSimpArgs false
namespace Go.Proofs.Ythklbgllgeigdaa.Pure
open Go.RowKit Go.Proofs.Ythklbgllgeigdaa.PFnCutsPay Go.Proofs.YthklbgllgeigdaaW.PrintWords Go.Proofs.YthklbgllgeigdaaW.PrintLast Go.Proofs.YthklbgllgeigdaaW.PrintMore
theorem Ev.pos {α : Type} {c : Prop} [Decidable c] {g f : Nat → Option α} {r : α} (hc : c) (h : Ev g r) : Ev (fun k => if c then g k else f k) r := by
 obtain ⟨K, h⟩ := h
 exact ⟨K, fun k hk => by show (if c then g k else f k) = _; rw [if_pos hc]; exact h k hk⟩
theorem Ev.neg {α : Type} {c : Prop} [Decidable c] {g f : Nat → Option α} {r : α} (hc : ¬ c) (h : Ev f r) : Ev (fun k => if c then g k else f k) r := by
 obtain ⟨K, h⟩ := h
 exact ⟨K, fun k hk => by show (if c then g k else f k) = _; rw [if_neg hc]; exact h k hk⟩
theorem Ev.val {α : Type} {a r : α} (h : a = r) : Ev (fun _ => some a) r := ⟨0, fun _ _ => by rw [h]⟩
theorem Ev.bindc {α β : Type} {a : Option α} {f : Nat → α → Option β} {x : α} {r : β} (h : a = some x) (k : Ev (fun n => f n x) r) : Ev (fun n => a.bind (f n)) r := by
 obtain ⟨K, k⟩ := k
 exact ⟨K, fun n hn => by show a.bind (f n) = _; rw [h]; exact k n hn⟩
theorem Ev.eq {α : Type} {g : Nat → Option α} {r r' : α} (h : Ev g r) (e : r = r') : Ev g r' := e ▸ h
def inB (a b c : Int) : Bool := decide (b ≤ a) && decide (a ≤ c)
theorem Ev.ite {α : Type} {c : Prop} [Decidable c] {g f : Nat → Option α} {r : α} (h : c → Ev g r) (h' : ¬ c → Ev f r) : Ev (fun k => if c then g k else f k) r := by
 by_cases hc : c
 · exact Ev.pos hc (h hc)
 · exact Ev.neg hc (h' hc)
theorem rd_eq (l : List Int) (i : Nat) (h : i < l.length) : rd l (i : Int) = l[i] := by simp [rd, List.getD_eq_getElem?_getD, List.getElem?_eq_getElem h]
theorem rd_app (p : List Int) (x : Int) (s : List Int) : rd (p ++ x :: s) (p.length : Int) = x := by simp [rd, List.getD_eq_getElem?_getD]
theorem w64 {n : Int} (h0 : -9223372036854775808 ≤ n) (h1 : n ≤ 9223372036854775807) : wrap64 n = n := by unfold wrap64; omega
theorem spec_l1In.val (a b c : Int) : spec_l1In.f a b c = some (decide (b ≤ a) && decide (a ≤ c)) := by
 unfold spec_l1In.f
 by_cases h : a ≥ b
 · rw [if_pos h]; simp [show b ≤ a from h]
 · rw [if_neg h]; simp [show ¬ b ≤ a from h]
theorem spec_l1In.valB (a b c : Int) : spec_l1In.f a b c = some (inB a b c) := spec_l1In.val a b c
theorem impl_within.val (a b c : Int) : impl_within.f a b c = some (decide (b ≤ a) && decide (a ≤ c)) := by
 unfold impl_within.f
 by_cases h : b ≤ a
 · rw [if_pos h]; simp [h]
 · rw [if_neg h]; simp [h]
theorem impl_within.valB (a b c : Int) : impl_within.f a b c = some (inB a b c) := impl_within.val a b c
/-- No element is less than the one before. -/
def sortedB : List Int → Bool
 | [] => true
 | [_] => true
 | x :: y :: s => decide (x ≤ y) && sortedB (y :: s)
theorem sortedB_iff (l : List Int) : sortedB l = true ↔ ∀ i : Nat, ∀ h : i + 1 < l.length, l[i] ≤ l[i + 1] := by
 induction l with
 | nil => simp [sortedB]
 | cons x s ih =>
  cases s with
  | nil => simp [sortedB]
  | cons y s =>
   simp only [sortedB, Bool.and_eq_true, decide_eq_true_eq, ih]
   constructor
   · rintro ⟨h1, h2⟩ i hi
     cases i with
     | zero => exact h1
     | succ i => exact h2 i (by simpa using hi)
   · intro h
     exact ⟨h 0 (by simp), fun i hi => h (i + 1) (by simpa using hi)⟩
def piGoodB (l : List Int) : Bool := decide (l.length ≤ 20) && (l.all fun x => decide (1 ≤ x) && decide (x ≤ 10000)) && sortedB l
theorem impl_areWithin.val (l : List Int) (a b : Int) : impl_areWithin.f l a b = some (l.all fun x => decide (a ≤ x) && decide (x ≤ b)) := rfl
theorem cmp_Less_int.val (a b : Int) : cmp_Less_int.f a b = some (decide (a < b)) := by simp [cmp_Less_int.f, cmp_isNaN_int.f]
theorem slices_IsSorted_int_int.ev_l (l : List Int) (hl : l.length ≤ 9223372036854775806) (i : Nat) : i < l.length → Ev (fun k => slices_IsSorted_int_int.l0 k l (i : Int)) (sortedB (l.take (i + 1))) := by
 induction i with
 | zero =>
  intro hi
  refine Ev.step (f := fun _ => some true) (fun k => ?_) (Ev.val ?_)
  · rw [slices_IsSorted_int_int.l0, if_neg (by omega)]
  · cases l with
    | nil => rfl
    | cons x s => simp [sortedB]
 | succ i ih =>
  intro hi
  have h := ih (by omega)
  have hw : wrap64 (((i + 1 : Nat) : Int) - 1) = (i : Int) := by rw [w64 (by omega) (by omega)]; omega
  have key : sortedB (l.take (i + 1 + 1)) = (decide (l[i] ≤ l[i + 1]) && sortedB (l.take (i + 1))) := by
   rw [Bool.eq_iff_iff, Bool.and_eq_true, decide_eq_true_eq, sortedB_iff, sortedB_iff]
   constructor
   · intro h
     refine ⟨by have := h i (by simp <;> omega); simpa using this, fun j hj => ?_⟩
     have hj' : j + 1 < i + 1 := by simp at hj; omega
     have := h j (by simp <;> omega)
     simpa using this
   · rintro ⟨h1, h2⟩ j hj
     have hj' : j + 1 < i + 1 + 1 := by simp at hj; omega
     by_cases e : j = i
     · subst e; simpa using h1
     · have := h2 j (by simp <;> omega)
       simpa using this
  by_cases c : l[i + 1] < l[i]
  · refine Ev.step (f := fun _ => some false) (fun k => ?_) (Ev.val (by rw [key, decide_eq_false (by omega)]; rfl))
    rw [slices_IsSorted_int_int.l0, if_pos (by omega), if_pos (by omega), if_pos (by omega), hw, if_pos (by omega), if_pos (by omega), rd_eq l _ hi, rd_eq l i (by omega), cmp_Less_int.val, Option.bind_some, if_pos (by simpa using c)]
  · refine Ev.step (f := fun k => slices_IsSorted_int_int.l0 k l (i : Int)) (fun k => ?_) (Ev.eq h (by rw [key, decide_eq_true (by omega)]; rfl))
    rw [slices_IsSorted_int_int.l0, if_pos (by omega), if_pos (by omega), if_pos (by omega), hw, if_pos (by omega), if_pos (by omega), rd_eq l _ hi, rd_eq l i (by omega), cmp_Less_int.val, Option.bind_some, if_neg (by simpa using c)]
theorem slices_IsSorted_int_int.ev (l : List Int) (hl : l.length ≤ 9223372036854775806) : Ev (fun k => slices_IsSorted_int_int.f k l) (sortedB l) := by
 unfold slices_IsSorted_int_int.f
 cases l with
 | nil =>
  refine Ev.step (f := fun _ => some true) (fun k => ?_) (Ev.val (by simp [sortedB]))
  rw [slices_IsSorted_int_int.l0, if_neg (by rw [w64 (by simp) (by simp)]; simp)]
 | cons x s =>
  have h := slices_IsSorted_int_int.ev_l (x :: s) hl s.length (by simp)
  have hw : wrap64 ((((x :: s).length : Nat) : Int) - 1) = (s.length : Int) := by
   simp only [List.length_cons] at hl ⊢
   rw [w64 (by omega) (by omega)]; omega
  rw [hw]
  refine Ev.eq h ?_
  rw [List.take_of_length_le (by simp)]
/-- Each element is greater than the one before. -/
def risesB : List Int → Bool
 | [] => true
 | [_] => true
 | x :: y :: s => decide (x < y) && risesB (y :: s)
theorem rises_of_pairwise : ∀ l : List Int, l.Pairwise (fun x y => x < y) → risesB l = true
 | [], _ => rfl
 | [_], _ => rfl
 | x :: y :: s, h => by
  rw [List.pairwise_cons] at h
  rw [risesB, rises_of_pairwise (y :: s) h.2, decide_eq_true (h.1 y (by simp))]; rfl
theorem spec_l1Rising.ev_l (a b : Int) (s : List Int) : ∀ (p : List Int) (x : Int), p.length + s.length + 1 ≤ 9223372036854775806 → Ev (fun k => spec_l1Rising.l0 k (p ++ x :: s) a b (p ++ x :: s) ((p ++ x :: s).length : Int) ((p.length + 1 : Nat) : Int)) ((s.all fun x => inB x a b) && risesB (x :: s)) := by
 induction s with
 | nil =>
  intro p x hp
  refine Ev.step (f := fun _ => some true) (fun k => ?_) (Ev.val (by simp [risesB]))
  rw [spec_l1Rising.l0, if_neg (by simp)]
 | cons y s ih =>
  intro p x hp
  simp only [List.length_cons] at hp
  have e1 : rd (p ++ x :: y :: s) (p.length : Int) = x := rd_app p x _
  have e2 : rd (p ++ x :: y :: s) ((p.length + 1 : Nat) : Int) = y := by
   have := rd_app (p ++ [x]) y s
   simpa using this
  have hw : wrap64 (((p.length + 1 : Nat) : Int) - 1) = (p.length : Int) := by rw [w64 (by omega) (by omega)]; omega
  have h := ih (p ++ [x]) y (by simp <;> omega)
  by_cases c : inB y a b = true
  · by_cases c2 : x < y
    · refine Ev.step (f := fun k => spec_l1Rising.l0 k ((p ++ [x]) ++ y :: s) a b ((p ++ [x]) ++ y :: s) (((p ++ [x]) ++ y :: s).length : Int) (((p ++ [x]).length + 1 : Nat) : Int)) (fun k => ?_) (Ev.eq h (by simp only [List.all_cons, c, risesB, c2, decide_true, Bool.true_and]))
      rw [spec_l1Rising.l0, if_pos (by simp <;> omega), if_pos (by omega), if_pos (by simp <;> omega), e2, spec_l1In.valB, Option.bind_some, if_pos c, if_pos (by omega), hw, if_pos (by omega), if_pos (by simp <;> omega), e1, if_neg (by omega), w64 (by omega) (by omega)]
      simp
    · refine Ev.step (f := fun _ => some false) (fun k => ?_) (Ev.val (by simp [risesB, c2]))
      rw [spec_l1Rising.l0, if_pos (by simp <;> omega), if_pos (by omega), if_pos (by simp <;> omega), e2, spec_l1In.valB, Option.bind_some, if_pos c, if_pos (by omega), hw, if_pos (by omega), if_pos (by simp <;> omega), e1, if_pos (by omega)]
  · refine Ev.step (f := fun _ => some false) (fun k => ?_) (Ev.val (by simp only [List.all_cons]; rw [Bool.not_eq_true] at c; rw [c]; rfl))
    rw [spec_l1Rising.l0, if_pos (by simp <;> omega), if_pos (by omega), if_pos (by simp <;> omega), e2, spec_l1In.valB, Option.bind_some, if_neg c]
theorem spec_l1Rising.ev (l : List Int) (a b : Int) (hl : l.length ≤ 9223372036854775806) : Ev (fun k => spec_l1Rising.f k l a b) ((l.all fun x => inB x a b) && risesB l) := by
 unfold spec_l1Rising.f
 cases l with
 | nil =>
  refine Ev.step (f := fun _ => some true) (fun k => ?_) (Ev.val (by simp [risesB]))
  rw [spec_l1Rising.l0, if_neg (by simp)]
 | cons x s =>
  have h := spec_l1Rising.ev_l a b s [] x (by simpa using hl)
  simp only [List.length_cons] at hl
  have e1 : rd (x :: s) 0 = x := by simp [rd]
  by_cases c : inB x a b = true
  · refine Ev.step (f := fun k => spec_l1Rising.l0 k (x :: s) a b (x :: s) ((x :: s).length : Int) ((([] : List Int).length + 1 : Nat) : Int)) (fun k => ?_) (Ev.eq h (by simp [c]))
    rw [spec_l1Rising.l0, if_pos (by simp <;> omega), if_pos (by omega), if_pos (by simp <;> omega), e1, spec_l1In.valB, Option.bind_some, if_pos c, if_neg (by omega), w64 (by omega) (by omega)]
    simp
  · refine Ev.step (f := fun _ => some false) (fun k => ?_) (Ev.val (by simp only [List.all_cons]; rw [Bool.not_eq_true] at c; rw [c]; rfl))
    rw [spec_l1Rising.l0, if_pos (by simp <;> omega), if_pos (by omega), if_pos (by simp <;> omega), e1, spec_l1In.valB, Option.bind_some, if_neg c]
theorem impl_rises.ev_l (s : List Int) : ∀ (p : List Int) (x : Int), p.length + s.length + 1 ≤ 9223372036854775806 → Ev (fun k => impl_rises.l0 k (p ++ x :: s) ((p.length + 1 : Nat) : Int)) (risesB (x :: s)) := by
 induction s with
 | nil =>
  intro p x hp
  refine Ev.step (f := fun _ => some true) (fun k => ?_) (Ev.val (by simp [risesB]))
  rw [impl_rises.l0, if_neg (by simp)]
 | cons y s ih =>
  intro p x hp
  simp only [List.length_cons] at hp
  have e1 : rd (p ++ x :: y :: s) (p.length : Int) = x := rd_app p x _
  have e2 : rd (p ++ x :: y :: s) ((p.length + 1 : Nat) : Int) = y := by
   have := rd_app (p ++ [x]) y s
   simpa using this
  have hw : wrap64 (((p.length + 1 : Nat) : Int) - 1) = (p.length : Int) := by rw [w64 (by omega) (by omega)]; omega
  by_cases c : x < y
  · have h := ih (p ++ [x]) y (by simp <;> omega)
    refine Ev.step (f := fun k => impl_rises.l0 k ((p ++ [x]) ++ y :: s) (((p ++ [x]).length + 1 : Nat) : Int)) (fun k => ?_) (Ev.eq h (by simp [risesB, c]))
    rw [impl_rises.l0, if_pos (by simp <;> omega), hw, if_pos (by omega), if_pos (by simp <;> omega), if_pos (by omega), e1, e2, if_neg (by omega), w64 (by omega) (by omega)]
    simp
  · refine Ev.step (f := fun _ => some false) (fun k => ?_) (Ev.val (by simp [risesB, c]))
    rw [impl_rises.l0, if_pos (by simp <;> omega), hw, if_pos (by omega), if_pos (by simp <;> omega), if_pos (by omega), e1, e2, if_pos (by omega)]
theorem impl_rises.ev (l : List Int) (hl : l.length ≤ 9223372036854775806) : Ev (fun k => impl_rises.f k l) (risesB l) := by
 unfold impl_rises.f
 cases l with
 | nil =>
  refine Ev.step (f := fun _ => some true) (fun k => ?_) (Ev.val (by simp [risesB]))
  rw [impl_rises.l0, if_neg (by simp)]
 | cons x s => exact impl_rises.ev_l s [] x (by simp at hl ⊢; omega)
theorem impl_ArePieces.ev (l : List Int) (hl : l.length ≤ 9223372036854775806) : Ev (fun k => impl_ArePieces.f k l) (piGoodB l) := by
 unfold impl_ArePieces.f
 refine Ev.ite (fun h => ?_) (fun h => ?_)
 · refine Ev.bindc (impl_areWithin.val l 1 10000) ?_
   refine Ev.ite (fun c => ?_) (fun c => Ev.val ?_)
   · refine Ev.bind (slices_IsSorted_int_int.ev l hl) (Ev.val ?_)
     unfold piGoodB
     rw [decide_eq_true (by omega), c]; simp
   · unfold piGoodB
     rw [Bool.not_eq_true] at c
     rw [c]; simp
 · refine Ev.val ?_
   unfold piGoodB
   rw [decide_eq_false (by omega)]; rfl
theorem risesB_head {x : Int} {s : List Int} (h : risesB (x :: s) = true) : ∀ y ∈ s, x < y := by
 induction s generalizing x with
 | nil => simp
 | cons z s ih =>
  simp only [risesB, Bool.and_eq_true, decide_eq_true_eq] at h
  intro y hy
  rcases List.mem_cons.1 hy with rfl | hy
  · exact h.1
  · have := ih h.2 y hy; omega
theorem pairwise_of_rises : ∀ l : List Int, risesB l = true → l.Pairwise (fun x y => x < y)
 | [], _ => List.Pairwise.nil
 | x :: s, h => List.pairwise_cons.2 ⟨risesB_head h, pairwise_of_rises s (by
  cases s with
  | nil => rfl
  | cons y s => rw [risesB, Bool.and_eq_true] at h; exact h.2)⟩
theorem sum_nonneg (l : List Int) (hl : ∀ x ∈ l, 0 ≤ x) : 0 ≤ l.sum := by
 induction l with
 | nil => simp
 | cons x t ih =>
  have hx := hl x (by simp)
  have := ih (fun y hy => hl y (by simp [hy]))
  rw [List.sum_cons]; omega
theorem sum_le (l : List Int) (B : Int) (hl : ∀ x ∈ l, x ≤ B) : l.sum ≤ l.length * B := by
 induction l with
 | nil => simp
 | cons x t ih =>
  have hx := hl x (by simp)
  have := ih (fun y hy => hl y (by simp [hy]))
  rw [List.sum_cons, List.length_cons]
  have e : ((t.length + 1 : Nat) : Int) * B = t.length * B + B := by
   rw [show ((t.length + 1 : Nat) : Int) = (t.length : Int) + 1 by omega, Int.add_mul]; omega
  omega
/-- Up to where all sums can be made of pieces in order. -/
def runL : List Int → Int → Int
 | [], a => a
 | x :: t, a => if x > a + 1 then a else runL t (a + x)
theorem impl_run.ev_l (s : List Int) : ∀ (p : List Int) (a : Int), p.length + s.length ≤ 1000000000 → 0 ≤ a → (∀ x ∈ s, 0 ≤ x) → a + s.sum ≤ 1000000000 → Ev (fun k => impl_run.l0 k a (p ++ s) ((p ++ s).length : Int) (p.length : Int)) (runL s a) := by
 induction s with
 | nil =>
  intro p a hp h0 hs hsum
  refine Ev.step (f := fun _ => some a) (fun k => ?_) (Ev.val (by simp [runL]))
  rw [impl_run.l0, if_neg (by simp)]
 | cons x s ih =>
  intro p a hp h0 hs hsum
  simp only [List.length_cons] at hp
  rw [List.sum_cons] at hsum
  have hx := hs x (by simp)
  have hs' : ∀ y ∈ s, 0 ≤ y := fun y hy => hs y (by simp [hy])
  have hsn := sum_nonneg s hs'
  have h := ih (p ++ [x]) (a + x) (by simp <;> omega) (by omega) hs' (by omega)
  by_cases c : x > a + 1
  · refine Ev.step (f := fun _ => some a) (fun k => ?_) (Ev.val (by rw [runL, if_pos c]))
    rw [impl_run.l0, if_pos (by simp <;> omega), if_pos (by omega), if_pos (by simp <;> omega), rd_app, w64 (n := a + 1) (by omega) (by omega), if_pos c]
  · refine Ev.step (f := fun k => impl_run.l0 k (a + x) ((p ++ [x]) ++ s) (((p ++ [x]) ++ s).length : Int) ((p ++ [x]).length : Int)) (fun k => ?_) (Ev.eq h (by rw [runL, if_neg c]))
    rw [impl_run.l0, if_pos (by simp <;> omega), if_pos (by omega), if_pos (by simp <;> omega), rd_app, w64 (n := a + 1) (by omega) (by omega), if_neg c, w64 (n := a + x) (by omega) (by omega), w64 (by omega) (by omega)]
    simp
theorem impl_run.ev (l : List Int) (hl : l.length ≤ 1000000000) (h0 : ∀ x ∈ l, 0 ≤ x) (hs : l.sum ≤ 1000000000) : Ev (fun k => impl_run.f k l) (runL l 0) := by
 exact impl_run.ev_l l [] 0 (by simpa using hl) (by omega) h0 (by omega)
theorem spec_piRun.ev_l (s : List Int) : ∀ (p : List Int) (a : Int), p.length + s.length ≤ 1000000000 → 0 ≤ a → (∀ x ∈ s, 0 ≤ x) → a + s.sum ≤ 1000000000 → Ev (fun k => spec_piRun.l0 k a (p ++ s) ((p ++ s).length : Int) (p.length : Int)) (runL s a) := by
 induction s with
 | nil =>
  intro p a hp h0 hs hsum
  refine Ev.step (f := fun _ => some a) (fun k => ?_) (Ev.val (by simp [runL]))
  rw [spec_piRun.l0, if_neg (by simp)]
 | cons x s ih =>
  intro p a hp h0 hs hsum
  simp only [List.length_cons] at hp
  rw [List.sum_cons] at hsum
  have hx := hs x (by simp)
  have hs' : ∀ y ∈ s, 0 ≤ y := fun y hy => hs y (by simp [hy])
  have hsn := sum_nonneg s hs'
  have h := ih (p ++ [x]) (a + x) (by simp <;> omega) (by omega) hs' (by omega)
  by_cases c : x > a + 1
  · refine Ev.step (f := fun _ => some a) (fun k => ?_) (Ev.val (by rw [runL, if_pos c]))
    rw [spec_piRun.l0, if_pos (by simp <;> omega), if_pos (by omega), if_pos (by simp <;> omega), rd_app, w64 (n := a + 1) (by omega) (by omega), if_pos c]
  · refine Ev.step (f := fun k => spec_piRun.l0 k (a + x) ((p ++ [x]) ++ s) (((p ++ [x]) ++ s).length : Int) ((p ++ [x]).length : Int)) (fun k => ?_) (Ev.eq h (by rw [runL, if_neg c]))
    rw [spec_piRun.l0, if_pos (by simp <;> omega), if_pos (by omega), if_pos (by simp <;> omega), rd_app, w64 (n := a + 1) (by omega) (by omega), if_neg c, w64 (n := a + x) (by omega) (by omega), w64 (by omega) (by omega)]
    simp
theorem spec_piRun.ev (l : List Int) (hl : l.length ≤ 1000000000) (h0 : ∀ x ∈ l, 0 ≤ x) (hs : l.sum ≤ 1000000000) : Ev (fun k => spec_piRun.f k l) (runL l 0) := by
 exact spec_piRun.ev_l l [] 0 (by simpa using hl) (by omega) h0 (by omega)
/-- The integers in order. -/
def sortL (l : List Int) : List Int := l.mergeSort fun x y => decide (x ≤ y)
theorem perm_sorted_eq : ∀ (a b : List Int), a.Perm b → a.Pairwise (fun x y => x ≤ y) → b.Pairwise (fun x y => x ≤ y) → a = b
 | [], b, h, _, _ => (List.nil_perm.1 h).symm
 | x :: a, [], h, _, _ => absurd h.length_eq (by simp)
 | x :: a, y :: b, h, ha, hb => by
  rw [List.pairwise_cons] at ha hb
  have hy : y ∈ x :: a := h.symm.subset (by simp)
  have hx : x ∈ y :: b := h.subset (by simp)
  have e : x = y := by
   rcases List.mem_cons.1 hy with e1 | e1
   · exact e1.symm
   · rcases List.mem_cons.1 hx with e2 | e2
     · exact e2
     · have := ha.1 y e1; have := hb.1 x e2; omega
  subst e
  rw [perm_sorted_eq a b (List.Perm.cons_inv h) ha.2 hb.2]
theorem sortL_perm (l : List Int) : (sortL l).Perm l := List.mergeSort_perm l _
theorem sortL_sorted (l : List Int) : (sortL l).Pairwise (fun x y => x ≤ y) := by
 have h := List.pairwise_mergeSort (le := fun x y : Int => decide (x ≤ y)) (fun a b c h1 h2 => by simp at *; omega) (fun a b => by simp; omega) l
 exact h.imp (fun h => of_decide_eq_true h)
theorem sortL_length (l : List Int) : (sortL l).length = l.length := (sortL_perm l).length_eq
/-- The pieces along a chain. -/
def partsL (links : Int) : List Int → Int → List Int
 | [], n => if n < links then [links - n] else []
 | c :: s, n => if n < c then (c - n) :: 1 :: partsL links s (c + 1) else 1 :: partsL links s (c + 1)
theorem partsL_length (links : Int) : ∀ (s : List Int) (n : Int), (partsL links s n).length ≤ 2 * s.length + 1
 | [], n => by rw [partsL]; split <;> simp
 | c :: s, n => by
  have := partsL_length links s (c + 1)
  rw [partsL]
  split <;> simp <;> omega
theorem partsL_pos (links : Int) (hl : 1 ≤ links) (s : List Int) : 0 < (partsL links s 0).length := by
 cases s with
 | nil => rw [partsL, if_pos (by omega)]; simp
 | cons c s => rw [partsL]; split <;> simp
theorem partsL_ge (links : Int) : ∀ (s : List Int) (n : Int), (∀ x ∈ partsL links s n, 1 ≤ x)
 | [], n, x, hx => by
  rw [partsL] at hx
  split at hx
  · simp at hx; omega
  · simp at hx
 | c :: s, n, x, hx => by
  have := partsL_ge links s (c + 1)
  rw [partsL] at hx
  split at hx
  · simp at hx
    rcases hx with h | h | h
    · omega
    · omega
    · exact this x h
  · simp at hx
    rcases hx with h | h
    · omega
    · exact this x h
theorem partsL_le (links : Int) (hl : links ≤ 1000) : ∀ (s : List Int) (n : Int), 0 ≤ n → (∀ x ∈ s, 0 ≤ x ∧ x ≤ 1000) → (∀ x ∈ partsL links s n, x ≤ 1000)
 | [], n, hn, hs, x, hx => by
  rw [partsL] at hx
  split at hx
  · simp at hx; omega
  · simp at hx
 | c :: s, n, hn, hs, x, hx => by
  have hc := hs c (by simp)
  have := partsL_le links hl s (c + 1) (by omega) (fun y hy => hs y (by simp [hy]))
  rw [partsL] at hx
  split at hx
  · simp at hx
    rcases hx with h | h | h
    · omega
    · omega
    · exact this x h
  · simp at hx
    rcases hx with h | h
    · omega
    · exact this x h
theorem impl_parts.ev_l (links : Int) (h1 : 0 ≤ links) (h2 : links ≤ 1000) (s : List Int) : ∀ (p acc : List Int) (n : Int), p.length + s.length ≤ 1000000 → acc.length + 2 * s.length + 1 ≤ 1000000 → 0 ≤ n → n ≤ 1001 → (∀ x ∈ s, 0 ≤ x ∧ x ≤ 1000) → Ev (fun k => impl_parts.l0 k links acc n (p ++ s) ((p ++ s).length : Int) (p.length : Int)) (acc ++ partsL links s n) := by
 induction s with
 | nil =>
  intro p acc n hp ha h0 hn hs
  by_cases c : n < links
  · refine Ev.step (f := fun _ => some (acc ++ [links - n])) (fun k => ?_) (Ev.val (by rw [partsL, if_pos c]))
    rw [impl_parts.l0, if_neg (by simp), if_pos c, if_pos (by simp at ha; omega), w64 (by omega) (by omega)]
  · refine Ev.step (f := fun _ => some acc) (fun k => ?_) (Ev.val (by rw [partsL, if_neg c, List.append_nil]))
    rw [impl_parts.l0, if_neg (by simp), if_neg c]
 | cons x s ih =>
  intro p acc n hp ha h0 hn hs
  simp only [List.length_cons] at hp ha
  have hx := hs x (by simp)
  have hs' : ∀ y ∈ s, 0 ≤ y ∧ y ≤ 1000 := fun y hy => hs y (by simp [hy])
  by_cases c : n < x
  · have h := ih (p ++ [x]) (acc ++ [x - n] ++ [1]) (x + 1) (by simp <;> omega) (by simp <;> omega) (by omega) (by omega) hs'
    refine Ev.step (f := fun k => impl_parts.l0 k links (acc ++ [x - n] ++ [1]) (x + 1) ((p ++ [x]) ++ s) (((p ++ [x]) ++ s).length : Int) ((p ++ [x]).length : Int)) (fun k => ?_) (Ev.eq h (by rw [partsL, if_pos c]; simp))
    rw [impl_parts.l0, if_pos (by simp <;> omega), if_pos (by omega), if_pos (by simp <;> omega), rd_app, if_pos c, if_pos (by omega), Option.bind_some, w64 (n := x - n) (by omega) (by omega), if_pos (by simp <;> omega), w64 (n := x + 1) (by omega) (by omega), w64 (by omega) (by omega)]
    simp
  · have h := ih (p ++ [x]) (acc ++ [1]) (x + 1) (by simp <;> omega) (by simp <;> omega) (by omega) (by omega) hs'
    refine Ev.step (f := fun k => impl_parts.l0 k links (acc ++ [1]) (x + 1) ((p ++ [x]) ++ s) (((p ++ [x]) ++ s).length : Int) ((p ++ [x]).length : Int)) (fun k => ?_) (Ev.eq h (by rw [partsL, if_neg c]; simp))
    rw [impl_parts.l0, if_pos (by simp <;> omega), if_pos (by omega), if_pos (by simp <;> omega), rd_app, if_neg c, if_pos (by omega), w64 (n := x + 1) (by omega) (by omega), w64 (by omega) (by omega)]
    simp
theorem impl_parts.ev (links : Int) (h1 : 0 ≤ links) (h2 : links ≤ 1000) (l : List Int) (hl : l.length ≤ 9) (hs : ∀ x ∈ l, 0 ≤ x ∧ x ≤ 1000) : Ev (fun k => impl_parts.f k links l) (partsL links l 0) :=
 impl_parts.ev_l links h1 h2 l [] [] 0 (by simp <;> omega) (by simp <;> omega) (by omega) (by omega) hs
theorem spec_chParts.ev_l (links : Int) (h1 : 0 ≤ links) (h2 : links ≤ 1000) (s : List Int) : ∀ (p acc : List Int) (n : Int), p.length + s.length ≤ 1000000 → acc.length + 2 * s.length + 1 ≤ 1000000 → 0 ≤ n → n ≤ 1001 → (∀ x ∈ s, 0 ≤ x ∧ x ≤ 1000) → Ev (fun k => spec_chParts.l0 k links acc n (p ++ s) ((p ++ s).length : Int) (p.length : Int)) (acc ++ partsL links s n) := by
 induction s with
 | nil =>
  intro p acc n hp ha h0 hn hs
  by_cases c : n < links
  · refine Ev.step (f := fun _ => some (acc ++ [links - n])) (fun k => ?_) (Ev.val (by rw [partsL, if_pos c]))
    rw [spec_chParts.l0, if_neg (by simp), if_pos c, if_pos (by simp at ha; omega), w64 (by omega) (by omega)]
  · refine Ev.step (f := fun _ => some acc) (fun k => ?_) (Ev.val (by rw [partsL, if_neg c, List.append_nil]))
    rw [spec_chParts.l0, if_neg (by simp), if_neg c]
 | cons x s ih =>
  intro p acc n hp ha h0 hn hs
  simp only [List.length_cons] at hp ha
  have hx := hs x (by simp)
  have hs' : ∀ y ∈ s, 0 ≤ y ∧ y ≤ 1000 := fun y hy => hs y (by simp [hy])
  by_cases c : n < x
  · have h := ih (p ++ [x]) (acc ++ [x - n] ++ [1]) (x + 1) (by simp <;> omega) (by simp <;> omega) (by omega) (by omega) hs'
    refine Ev.step (f := fun k => spec_chParts.l0 k links (acc ++ [x - n] ++ [1]) (x + 1) ((p ++ [x]) ++ s) (((p ++ [x]) ++ s).length : Int) ((p ++ [x]).length : Int)) (fun k => ?_) (Ev.eq h (by rw [partsL, if_pos c]; simp))
    rw [spec_chParts.l0, if_pos (by simp <;> omega), if_pos (by omega), if_pos (by simp <;> omega), rd_app, if_pos c, if_pos (by omega), Option.bind_some, w64 (n := x - n) (by omega) (by omega), if_pos (by simp <;> omega), w64 (n := x + 1) (by omega) (by omega), w64 (by omega) (by omega)]
    simp
  · have h := ih (p ++ [x]) (acc ++ [1]) (x + 1) (by simp <;> omega) (by simp <;> omega) (by omega) (by omega) hs'
    refine Ev.step (f := fun k => spec_chParts.l0 k links (acc ++ [1]) (x + 1) ((p ++ [x]) ++ s) (((p ++ [x]) ++ s).length : Int) ((p ++ [x]).length : Int)) (fun k => ?_) (Ev.eq h (by rw [partsL, if_neg c]; simp))
    rw [spec_chParts.l0, if_pos (by simp <;> omega), if_pos (by omega), if_pos (by simp <;> omega), rd_app, if_neg c, if_pos (by omega), w64 (n := x + 1) (by omega) (by omega), w64 (by omega) (by omega)]
    simp
theorem spec_chParts.ev (links : Int) (h1 : 0 ≤ links) (h2 : links ≤ 1000) (l : List Int) (hl : l.length ≤ 9) (hs : ∀ x ∈ l, 0 ≤ x ∧ x ≤ 1000) : Ev (fun k => spec_chParts.f k links l) (partsL links l 0) :=
 spec_chParts.ev_l links h1 h2 l [] [] 0 (by simp <;> omega) (by simp <;> omega) (by omega) (by omega) hs
theorem spec_l1Own.val (l : List Int) (hl : l.length ≤ 1000000) : spec_l1Own.f l = some l := by
 unfold spec_l1Own.f
 rw [Option.bind_some, if_pos (by simp <;> omega)]; rfl
theorem spec_piPut.ev_l (l : List Int) (n : Int) (hl : l.length ≤ 100000) : ∀ (k : Nat), k ≤ l.length → (∀ x ∈ l.drop k, n < x) → ∃ r, Ev (fun m => spec_piPut.l0 m l n (k : Int)) r ∧ r.Perm (n :: l) ∧ (l.Pairwise (fun x y => x ≤ y) → r.Pairwise (fun x y => x ≤ y))
 | 0, _, hd => by
  refine ⟨n :: l, ?_, List.Perm.refl _, fun h => List.pairwise_cons.2 ⟨fun y hy => by have := hd y (by simpa using hy); omega, h⟩⟩
  refine Ev.step (f := fun _ => some (n :: l)) (fun k => ?_) (Ev.val rfl)
  rw [spec_piPut.l0, if_neg (by omega), if_pos (by omega), if_pos (by omega)]
  simp only [Int.toNat_natCast, List.take_zero, List.drop_zero]
  rw [spec_l1Own.val [] (by simp), Option.bind_some, Option.bind_some, if_pos (by simp), Option.bind_some, if_pos (by simp <;> omega)]
  rfl
 | k + 1, hk, hd => by
  have hw : wrap64 (((k + 1 : Nat) : Int) - 1) = (k : Int) := by rw [w64 (by omega) (by omega)]; omega
  have hr : rd l (k : Int) = l[k] := rd_eq l k (by omega)
  by_cases c : l[k] > n
  · obtain ⟨r, h1, h2, h3⟩ := spec_piPut.ev_l l n hl k (by omega) (fun x hx => by
     rw [List.drop_eq_getElem_cons (by omega)] at hx
     rcases List.mem_cons.1 hx with e | e
     · rw [e]; exact c
     · exact hd x e)
    refine ⟨r, Ev.step (f := fun m => spec_piPut.l0 m l n (k : Int)) (fun m => ?_) h1, h2, h3⟩
    rw [spec_piPut.l0, if_pos (by omega), hw, if_pos (by omega), if_pos (by omega), hr, if_pos c]
  · refine ⟨l.take (k + 1) ++ n :: l.drop (k + 1), ?_, ?_, ?_⟩
    · refine Ev.step (f := fun _ => some (l.take (k + 1) ++ n :: l.drop (k + 1))) (fun m => ?_) (Ev.val rfl)
      rw [spec_piPut.l0, if_pos (by omega), hw, if_pos (by omega), if_pos (by omega), hr, if_neg c, if_pos (by omega), if_pos (by omega)]
      simp only [Int.toNat_natCast]
      rw [spec_l1Own.val _ (by simp <;> omega), Option.bind_some, Option.bind_some, if_pos (by simp <;> omega), Option.bind_some, if_pos (by simp <;> omega)]
      simp
    · refine List.perm_middle.trans ?_
      rw [List.take_append_drop]
    · intro h
      have h0 := h
      rw [← List.take_append_drop (k + 1) l, List.pairwise_append] at h0
      obtain ⟨ha, hb, _⟩ := h0
      rw [List.pairwise_append, List.pairwise_cons]
      have hA : ∀ x ∈ l.take (k + 1), x ≤ n := by
       intro x hx
       rw [List.take_succ_eq_append_getElem (by omega)] at hx ha
       rcases List.mem_append.1 hx with e | e
       · have := (List.pairwise_append.1 ha).2.2 x e l[k] (by simp); omega
       · rw [List.mem_singleton.1 e]; omega
      refine ⟨ha, ⟨fun y hy => by have := hd y hy; omega, hb⟩, fun x hx y hy => ?_⟩
      have h5 := hA x hx
      rcases List.mem_cons.1 hy with e | e
      · rw [e]; exact h5
      · have := hd y e; omega
theorem spec_piPut.ev (l : List Int) (n : Int) (hl : l.length ≤ 100000) : ∃ r, Ev (fun m => spec_piPut.f m l n) r ∧ r.Perm (n :: l) ∧ (l.Pairwise (fun x y => x ≤ y) → r.Pairwise (fun x y => x ≤ y)) :=
 spec_piPut.ev_l l n hl l.length (Nat.le_refl _) (fun x hx => by simp at hx)
theorem spec_chSorted.ev_l (s : List Int) : ∀ (p acc : List Int), p.length + s.length ≤ 1000000 → acc.length + s.length ≤ 100000 → acc.Pairwise (fun x y => x ≤ y) → ∃ r, Ev (fun k => spec_chSorted.l0 k acc (p ++ s) ((p ++ s).length : Int) (p.length : Int)) r ∧ r.Perm (acc ++ s) ∧ r.Pairwise (fun x y => x ≤ y) := by
 induction s with
 | nil =>
  intro p acc hp ha hs
  refine ⟨acc, Ev.step (f := fun _ => some acc) (fun k => ?_) (Ev.val rfl), by simp, hs⟩
  rw [spec_chSorted.l0, if_neg (by simp)]
 | cons x s ih =>
  intro p acc hp ha hs
  simp only [List.length_cons] at hp ha
  obtain ⟨q, q1, q2, q3⟩ := spec_piPut.ev acc x (by omega)
  have ql := q2.length_eq
  simp only [List.length_cons] at ql
  obtain ⟨r, h1, h2, h3⟩ := ih (p ++ [x]) q (by simp <;> omega) (by omega) (q3 hs)
  refine ⟨r, ?_, h2.trans ((q2.append_right s).trans (by simp [List.perm_middle.symm])), h3⟩
  refine Ev.step (f := fun k => (spec_piPut.f k acc x).bind fun t => spec_chSorted.l0 k t ((p ++ [x]) ++ s) (((p ++ [x]) ++ s).length : Int) ((p ++ [x]).length : Int)) (fun k => ?_) (Ev.bind q1 h1)
  rw [spec_chSorted.l0, if_pos (by simp <;> omega), if_pos (by omega), if_pos (by simp <;> omega), rd_app, w64 (by omega) (by omega)]
  simp
theorem spec_chSorted.ev (l : List Int) (hl : l.length ≤ 100000) : Ev (fun k => spec_chSorted.f k l) (sortL l) := by
 obtain ⟨r, h1, h2, h3⟩ := spec_chSorted.ev_l l [] [] (by simp <;> omega) (by simp <;> omega) List.Pairwise.nil
 exact Ev.eq h1 (perm_sorted_eq _ _ (h2.trans ((sortL_perm l).symm.trans (by simp))) h3 (sortL_sorted l))
def piecesB (links : Int) (l : List Int) : List Int := sortL (partsL links l 0)
theorem piecesB_length (links : Int) (l : List Int) (hl : l.length ≤ 9) : (piecesB links l).length ≤ 19 := by
 have := partsL_length links l 0
 rw [piecesB, sortL_length]; omega
theorem piecesB_in (links : Int) (h2 : links ≤ 1000) (l : List Int) (hs : ∀ x ∈ l, 0 ≤ x ∧ x ≤ 1000) : ∀ x ∈ piecesB links l, 1 ≤ x ∧ x ≤ 1000 := fun x hx =>
 have hx' := (sortL_perm _).subset hx
 ⟨partsL_ge links l 0 x hx', partsL_le links h2 l 0 (by omega) hs x hx'⟩
theorem spec_chPieces.ev (links : Int) (h1 : 0 ≤ links) (h2 : links ≤ 1000) (l : List Int) (hl : l.length ≤ 9) (hs : ∀ x ∈ l, 0 ≤ x ∧ x ≤ 1000) : Ev (fun k => spec_chPieces.f k links l) (piecesB links l) := by
 have := partsL_length links l 0
 exact Ev.bind (spec_chParts.ev links h1 h2 l hl hs) (Ev.bind (spec_chSorted.ev _ (by omega)) (Ev.val rfl))
theorem impl_pieces.ev (links : Int) (h1 : 1 ≤ links) (h2 : links ≤ 1000) (l : List Int) (hl : l.length ≤ 9) (hs : ∀ x ∈ l, 0 ≤ x ∧ x ≤ 1000) : Ev (fun k => impl_pieces.f k links l) (piecesB links l) := by
 have := partsL_length links l 0
 exact Ev.bind (impl_parts.ev links (by omega) h2 l hl hs) (Ev.pos (partsL_pos links h1 l) (Ev.pos (by omega) (Ev.val rfl)))
def cutsB (a : Int) (l : List Int) : Bool := inB a 1 1000 && (decide (l.length ≤ 9) && ((l.all fun x => inB x 0 (a - 1)) && risesB l))
theorem cutsB_in {a : Int} {l : List Int} (h : cutsB a l = true) : 1 ≤ a ∧ a ≤ 1000 ∧ l.length ≤ 9 ∧ ∀ x ∈ l, 0 ≤ x ∧ x ≤ a - 1 := by
 unfold cutsB inB at h
 simp at h
 exact ⟨h.1.1, h.1.2, h.2.1, h.2.2.1⟩
theorem cutsB_in' {a : Int} {l : List Int} (h : cutsB a l = true) : ∀ x ∈ l, 0 ≤ x ∧ x ≤ 1000 := fun x hx => by
 obtain ⟨_, h2, _, h4⟩ := cutsB_in h
 have := h4 x hx; omega
theorem spec_chCuts.ev (a : Int) (l : List Int) (hl : l.length ≤ 9223372036854775806) : Ev (fun k => spec_chCuts.f k a l) (cutsB a l) := by
 unfold spec_chCuts.f
 refine Ev.bindc (x := inB a 1 1000) (by unfold spec_chLinks.f; rw [spec_l1In.valB]; rfl) ?_
 refine Ev.ite (fun c => ?_) (fun c => Ev.val (by unfold cutsB; rw [Bool.not_eq_true] at c; rw [c]; rfl))
 have c' := c
 unfold inB at c'
 simp at c'
 refine Ev.ite (fun d => ?_) (fun d => Ev.val (by unfold cutsB; rw [decide_eq_false (by omega), Bool.false_and, Bool.and_false]))
 rw [w64 (by omega) (by omega)]
 refine Ev.bind (spec_l1Rising.ev l 0 (a - 1) hl) (Ev.val ?_)
 unfold cutsB
 rw [c, decide_eq_true (by omega), Bool.true_and, Bool.true_and]
theorem impl_AreCuts.ev (a : Int) (l : List Int) (hl : l.length ≤ 9223372036854775806) : Ev (fun k => impl_AreCuts.f k a l) (cutsB a l) := by
 unfold impl_AreCuts.f
 refine Ev.bindc (x := inB a 1 1000) (by unfold impl_isChain.f; rw [impl_within.valB]; rfl) ?_
 refine Ev.ite (fun c => ?_) (fun c => Ev.val (by unfold cutsB; rw [Bool.not_eq_true] at c; rw [c]; rfl))
 have c' := c
 unfold inB at c'
 simp at c'
 refine Ev.ite (fun d => ?_) (fun d => Ev.val (by unfold cutsB; rw [decide_eq_false (by omega), Bool.false_and, Bool.and_false]))
 rw [w64 (by omega) (by omega)]
 refine Ev.bindc (impl_areWithin.val l 0 (a - 1)) ?_
 refine Ev.ite (fun e => ?_) (fun e => Ev.val ?_)
 · refine Ev.bind (impl_rises.ev l hl) (Ev.val ?_)
   unfold cutsB inB
   rw [show (decide (1 ≤ a) && decide (a ≤ 1000)) = true from c, decide_eq_true (by omega), e, Bool.true_and, Bool.true_and, Bool.true_and]
 · rw [Bool.not_eq_true] at e
   unfold cutsB inB
   rw [e, Bool.false_and, Bool.and_false, Bool.and_false]
def piecesOfB (a : Int) (l : List Int) : List Int × Bool := if cutsB a l = true then (piecesB a l, true) else ([], false)
theorem piecesOfB_length (a : Int) (l : List Int) : (piecesOfB a l).1.length ≤ 19 := by
 unfold piecesOfB
 split
 · rename_i h; exact piecesB_length a l (cutsB_in h).2.2.1
 · simp
theorem spec_PiecesOfCuts.ev (a : Int) (l : List Int) (hl : l.length ≤ 9223372036854775806) : Ev (fun k => spec_PiecesOfCuts.f k a l) (piecesOfB a l) := by
 refine Ev.bind (spec_chCuts.ev a l hl) (Ev.ite (fun c => ?_) (fun c => Ev.val (by rw [piecesOfB, if_neg c])))
 have hc := cutsB_in c
 exact Ev.bind (spec_chPieces.ev a (by omega) hc.2.1 l hc.2.2.1 (cutsB_in' c)) (Ev.val (by rw [piecesOfB, if_pos c]))
theorem impl_PiecesOfCuts.ev (a : Int) (l : List Int) (hl : l.length ≤ 9223372036854775806) : Ev (fun k => impl_PiecesOfCuts.f k a l) (piecesOfB a l) := by
 refine Ev.bind (impl_AreCuts.ev a l hl) (Ev.ite (fun c => ?_) (fun c => Ev.val (by rw [piecesOfB, if_neg c])))
 have hc := cutsB_in c
 exact Ev.bind (impl_pieces.ev a (by omega) hc.2.1 l hc.2.2.1 (cutsB_in' c)) (Ev.val (by rw [piecesOfB, if_pos c]))
def runPB (a : Int) (l : List Int) : Int := runL (piecesB a l) 0
theorem piecesB_run {a : Int} {l : List Int} (h : cutsB a l = true) : (piecesB a l).length ≤ 1000000000 ∧ (∀ x ∈ piecesB a l, 0 ≤ x) ∧ (piecesB a l).sum ≤ 1000000000 := by
 have hc := cutsB_in h
 have hin := piecesB_in a hc.2.1 l (cutsB_in' h)
 have hlen := piecesB_length a l hc.2.2.1
 have hsum := sum_le (piecesB a l) 1000 (fun x hx => (hin x hx).2)
 exact ⟨by omega, fun x hx => by have := (hin x hx).1; omega, by omega⟩
theorem spec_piRun.pieces {a : Int} {l : List Int} (h : cutsB a l = true) : Ev (fun k => spec_piRun.f k (piecesB a l)) (runPB a l) :=
 spec_piRun.ev _ (piecesB_run h).1 (piecesB_run h).2.1 (piecesB_run h).2.2
theorem impl_run.pieces {a : Int} {l : List Int} (h : cutsB a l = true) : Ev (fun k => impl_run.f k (piecesB a l)) (runPB a l) :=
 impl_run.ev _ (piecesB_run h).1 (piecesB_run h).2.1 (piecesB_run h).2.2
def runOfB (a : Int) (l : List Int) : Int × Bool := if cutsB a l = true then (runPB a l, true) else (0, false)
theorem spec_RunOfCuts.ev (a : Int) (l : List Int) (hl : l.length ≤ 9223372036854775806) : Ev (fun k => spec_RunOfCuts.f k a l) (runOfB a l) := by
 refine Ev.bind (spec_chCuts.ev a l hl) (Ev.ite (fun c => ?_) (fun c => Ev.val (by rw [runOfB, if_neg c])))
 have hc := cutsB_in c
 exact Ev.bind (spec_chPieces.ev a (by omega) hc.2.1 l hc.2.2.1 (cutsB_in' c)) (Ev.bind (spec_piRun.pieces c) (Ev.val (by rw [runOfB, if_pos c])))
theorem impl_RunOfCuts.ev (a : Int) (l : List Int) (hl : l.length ≤ 9223372036854775806) : Ev (fun k => impl_RunOfCuts.f k a l) (runOfB a l) := by
 refine Ev.bind (impl_AreCuts.ev a l hl) (Ev.ite (fun c => ?_) (fun c => Ev.val (by rw [runOfB, if_neg c])))
 have hc := cutsB_in c
 exact Ev.bind (impl_pieces.ev a (by omega) hc.2.1 l hc.2.2.1 (cutsB_in' c)) (Ev.bind (impl_run.pieces c) (Ev.val (by rw [runOfB, if_pos c])))
theorem spec_chPay.ev {a : Int} {l : List Int} (c : cutsB a l = true) : Ev (fun k => spec_chPay.f k a l) (runPB a l == a) := by
 have hc := cutsB_in c
 exact Ev.bind (spec_chPieces.ev a (by omega) hc.2.1 l hc.2.2.1 (cutsB_in' c)) (Ev.bind (spec_piRun.pieces c) (Ev.val rfl))
theorem impl_pays.ev {a : Int} {l : List Int} (c : cutsB a l = true) : Ev (fun k => impl_pays.f k a l) (runPB a l == a) := by
 have hc := cutsB_in c
 exact Ev.bind (impl_pieces.ev a (by omega) hc.2.1 l hc.2.2.1 (cutsB_in' c)) (Ev.bind (impl_run.pieces c) (Ev.val rfl))
def doPayB (a : Int) (l : List Int) : Bool × Bool := if cutsB a l = true then (runPB a l == a, true) else (false, false)
theorem impl_DoCutsPay.ev (a : Int) (l : List Int) (hl : l.length ≤ 9223372036854775806) : Ev (fun k => impl_DoCutsPay.f k a l) (doPayB a l) := by
 refine Ev.bind (impl_AreCuts.ev a l hl) (Ev.ite (fun c => ?_) (fun c => Ev.val (by rw [doPayB, if_neg c])))
 exact Ev.bind (impl_pays.ev c) (Ev.val (by rw [doPayB, if_pos c]))
theorem spec_DoCutsPay.ev (a : Int) (l : List Int) (hl : l.length ≤ 9223372036854775806) : Ev (fun k => spec_DoCutsPay.f k a l) (doPayB a l) := by
 refine Ev.bind (spec_chCuts.ev a l hl) (Ev.ite (fun c => ?_) (fun c => Ev.val (by rw [doPayB, if_neg c])))
 exact Ev.bind (spec_chPay.ev c) (Ev.val (by rw [doPayB, if_pos c]))
def turnedB (l : List Int) : List Int := l.map fun c => c - rd l 0
def ringB (a : Int) (l : List Int) : List Int × Bool := if cutsB a l = true ∧ l ≠ [] then (piecesB a (turnedB l), true) else ([], false)
theorem ringB_length (a : Int) (l : List Int) : (ringB a l).1.length ≤ 19 := by
 unfold ringB
 split
 · rename_i h; exact piecesB_length a _ (by have := (cutsB_in h.1).2.2.1; simpa [turnedB] using this)
 · simp
theorem turnedB_in {a : Int} {l : List Int} (h : cutsB a l = true) : ∀ x ∈ turnedB l, 0 ≤ x ∧ x ≤ 1000 := by
 intro x hx
 unfold turnedB at hx
 obtain ⟨c, hc, rfl⟩ := List.mem_map.1 hx
 have hr : risesB l = true := by unfold cutsB at h; simp at h; exact h.2.2.2
 have hin := cutsB_in' h
 cases l with
 | nil => cases hc
 | cons y s =>
  have e : rd (y :: s) 0 = y := rfl
  rw [e]
  have hy := hin y (by simp)
  have h2 := hin c hc
  rcases List.mem_cons.1 hc with e2 | e2
  · omega
  · have := risesB_head hr c e2; omega
theorem spec_RingPieces.ev_l (a y : Int) (hy : 0 ≤ y ∧ y ≤ 1000) (R : List Int × Bool) (s : List Int) : ∀ (p acc : List Int), p.length + s.length ≤ 1000000 → acc.length + s.length ≤ 1000000 → (∀ x ∈ s, 0 ≤ x ∧ x ≤ 1000) → Ev (fun k => (spec_chPieces.f k a (acc ++ s.map fun c => c - y)).bind fun t => some (t, true)) R → Ev (fun k => spec_RingPieces.l0 k a y acc (p ++ s) ((p ++ s).length : Int) (p.length : Int)) R := by
 induction s with
 | nil =>
  intro p acc hp ha hs h
  refine Ev.step (f := fun k => (spec_chPieces.f k a (acc ++ ([] : List Int).map fun c => c - y)).bind fun t => some (t, true)) (fun k => ?_) h
  rw [spec_RingPieces.l0, if_neg (by simp)]
  simp
 | cons x s ih =>
  intro p acc hp ha hs h
  simp only [List.length_cons] at hp ha
  have hx := hs x (by simp)
  have h' := ih (p ++ [x]) (acc ++ [x - y]) (by simp <;> omega) (by simp <;> omega) (fun z hz => hs z (by simp [hz])) (by simpa using h)
  refine Ev.step (f := fun k => spec_RingPieces.l0 k a y (acc ++ [x - y]) ((p ++ [x]) ++ s) (((p ++ [x]) ++ s).length : Int) ((p ++ [x]).length : Int)) (fun k => ?_) h'
  rw [spec_RingPieces.l0, if_pos (by simp <;> omega), if_pos (by omega), if_pos (by simp <;> omega), rd_app, if_pos (by omega), w64 (n := x - y) (by omega) (by omega), w64 (by omega) (by omega)]
  simp
theorem impl_RingPieces.ev_l (a y : Int) (L : List Int) (hL : 0 < L.length) (hr : rd L 0 = y) (hy : 0 ≤ y ∧ y ≤ 1000) (R : List Int × Bool) (s : List Int) : ∀ (p acc : List Int), p.length + s.length ≤ 1000000 → acc.length + s.length ≤ 1000000 → (∀ x ∈ s, 0 ≤ x ∧ x ≤ 1000) → Ev (fun k => (impl_pieces.f k a (acc ++ s.map fun c => c - y)).bind fun t => some (t, true)) R → Ev (fun k => impl_RingPieces.l0 k a L acc (p ++ s) ((p ++ s).length : Int) (p.length : Int)) R := by
 induction s with
 | nil =>
  intro p acc hp ha hs h
  refine Ev.step (f := fun k => (impl_pieces.f k a (acc ++ ([] : List Int).map fun c => c - y)).bind fun t => some (t, true)) (fun k => ?_) h
  rw [impl_RingPieces.l0, if_neg (by simp)]
  simp
 | cons x s ih =>
  intro p acc hp ha hs h
  simp only [List.length_cons] at hp ha
  have hx := hs x (by simp)
  have h' := ih (p ++ [x]) (acc ++ [x - y]) (by simp <;> omega) (by simp <;> omega) (fun z hz => hs z (by simp [hz])) (by simpa using h)
  refine Ev.step (f := fun k => impl_RingPieces.l0 k a L (acc ++ [x - y]) ((p ++ [x]) ++ s) (((p ++ [x]) ++ s).length : Int) ((p ++ [x]).length : Int)) (fun k => ?_) h'
  rw [impl_RingPieces.l0, if_pos (by simp <;> omega), if_pos (by omega), if_pos (by simp <;> omega), if_pos (by omega), rd_app, hr, if_pos (by omega), w64 (n := x - y) (by omega) (by omega), w64 (by omega) (by omega)]
  simp
theorem ring_neg {a : Int} {l : List Int} (h : ¬ (cutsB a l = true ∧ l ≠ [])) : ringB a l = ([], false) := by rw [ringB, if_neg h]
theorem spec_RingPieces.ev (a : Int) (l : List Int) (hl : l.length ≤ 9223372036854775806) : Ev (fun k => spec_RingPieces.f k a l) (ringB a l) := by
 refine Ev.bind (spec_chCuts.ev a l hl) (Ev.ite (fun c => ?_) (fun c => ?_))
 · have hc := cutsB_in c
   cases hL : l with
   | nil =>
    refine Ev.step (f := fun _ => some ([], false)) (fun k => ?_) (Ev.val (ring_neg (by simp)).symm)
    rw [spec_RingPieces.j0, if_pos (by simp)]
   | cons y s =>
    rw [← hL]
    have e : rd l 0 = y := by rw [hL]; rfl
    have hy := cutsB_in' c y (by rw [hL]; simp)
    have ht := turnedB_in c
    have hp := spec_chPieces.ev a (by omega) hc.2.1 (turnedB l) (by simpa [turnedB] using hc.2.2.1) ht
    have h := spec_RingPieces.ev_l a y hy (ringB a l) l [] [] (by simp <;> omega) (by simp <;> omega) (cutsB_in' c) (Ev.bind (by simpa [turnedB, e] using hp) (Ev.val (by rw [ringB, if_pos ⟨c, by rw [hL]; simp⟩]; simp only [turnedB, e])))
    refine Ev.step (f := fun k => spec_RingPieces.l0 k a y [] l (l.length : Int) 0) (fun k => ?_) h
    rw [spec_RingPieces.j0, if_neg (by rw [hL]; simp <;> omega), if_pos (by rw [hL]; simp <;> omega), e]
 · refine Ev.step (f := fun _ => some ([], false)) (fun k => ?_) (Ev.val (ring_neg (fun h => c h.1)).symm)
   rw [spec_RingPieces.j0, if_pos rfl]
theorem impl_RingPieces.ev (a : Int) (l : List Int) (hl : l.length ≤ 9223372036854775806) : Ev (fun k => impl_RingPieces.f k a l) (ringB a l) := by
 refine Ev.bind (impl_AreCuts.ev a l hl) (Ev.ite (fun c => ?_) (fun c => ?_))
 · have hc := cutsB_in c
   cases hL : l with
   | nil =>
    refine Ev.step (f := fun _ => some ([], false)) (fun k => ?_) (Ev.val (ring_neg (by simp)).symm)
    rw [impl_RingPieces.j0, if_pos (by simp)]
   | cons y s =>
    rw [← hL]
    have e : rd l 0 = y := by rw [hL]; rfl
    have hy := cutsB_in' c y (by rw [hL]; simp)
    have ht := turnedB_in c
    have hp := impl_pieces.ev a (by omega) hc.2.1 (turnedB l) (by simpa [turnedB] using hc.2.2.1) ht
    have h := impl_RingPieces.ev_l a y l (by rw [hL]; simp) e hy (ringB a l) l [] [] (by simp <;> omega) (by simp <;> omega) (cutsB_in' c) (Ev.bind (by simpa [turnedB, e] using hp) (Ev.val (by rw [ringB, if_pos ⟨c, by rw [hL]; simp⟩]; simp only [turnedB, e])))
    refine Ev.step (f := fun k => impl_RingPieces.l0 k a l [] l (l.length : Int) 0) (fun k => ?_) h
    rw [impl_RingPieces.j0, if_neg (by rw [hL]; simp <;> omega)]
 · refine Ev.step (f := fun _ => some ([], false)) (fun k => ?_) (Ev.val (ring_neg (fun h => c h.1)).symm)
   rw [impl_RingPieces.j0, if_pos rfl]
theorem rises_of_pairwise' : ∀ l : List Int, l.Pairwise (fun x y => x < y) → risesB l = true
 | [], _ => rfl
 | [_], _ => rfl
 | x :: y :: s, h => by
  rw [List.pairwise_cons] at h
  rw [risesB, rises_of_pairwise' (y :: s) h.2, decide_eq_true (h.1 y (by simp))]; rfl
theorem cutsB_erase {a : Int} {l : List Int} (h : cutsB a l = true) (i : Nat) : cutsB a (l.eraseIdx i) = true := by
 have hs := List.eraseIdx_sublist l i
 unfold cutsB at h ⊢
 simp only [Bool.and_eq_true, decide_eq_true_eq, List.all_eq_true] at h ⊢
 exact ⟨h.1, Nat.le_trans hs.length_le h.2.1, fun x hx => h.2.2.1 x (hs.subset hx), rises_of_pairwise' _ ((pairwise_of_rises l h.2.2.2).sublist hs)⟩
def needR (links : Int) (l : List Int) : Nat → Nat → List Int
 | 0, _ => []
 | d + 1, i => if (runPB links (l.eraseIdx i) == links) = true then (i : Int) :: needR links l d (i + 1) else needR links l d (i + 1)
theorem needR_length (links : Int) (l : List Int) : ∀ d i, (needR links l d i).length ≤ d
 | 0, _ => by simp [needR]
 | d + 1, i => by
  have := needR_length links l d (i + 1)
  rw [needR]; split <;> simp <;> omega
theorem impl_without.val (l : List Int) (i : Nat) (h : i < l.length) (hl : l.length ≤ 1000000) : impl_without.f l (i : Int) = some (l.eraseIdx i) := by
 unfold impl_without.f
 rw [if_pos (by omega), if_pos (by omega), if_pos hl]; rfl
theorem impl_NeedlessCuts.ev_l {links : Int} {l : List Int} (hc : cutsB links l = true) : ∀ (d i : Nat) (acc : List Int), i + d = l.length → acc.length ≤ i → Ev (fun k => impl_NeedlessCuts.l0 k links l acc (l.length : Int) (i : Int)) (acc ++ needR links l d i, true)
 | 0, i, acc, hd, _ => by
  refine Ev.step (f := fun _ => some (acc, true)) (fun k => ?_) (Ev.val (by rw [needR, List.append_nil]))
  rw [impl_NeedlessCuts.l0, if_neg (by omega)]
 | d + 1, i, acc, hd, ha => by
  have hl := (cutsB_in hc).2.2.1
  have hp := impl_pays.ev (cutsB_erase hc i)
  have hw : wrap64 ((i : Int) + 1) = ((i + 1 : Nat) : Int) := by rw [w64 (by omega) (by omega)]; omega
  by_cases c : (runPB links (l.eraseIdx i) == links) = true
  · have h := impl_NeedlessCuts.ev_l hc d (i + 1) (acc ++ [(i : Int)]) (by omega) (by simp; omega)
    refine Ev.step (f := fun k => (impl_pays.f k links (l.eraseIdx i)).bind fun t => if t = true then impl_NeedlessCuts.l0 k links l (acc ++ [(i : Int)]) (l.length : Int) ((i + 1 : Nat) : Int) else impl_NeedlessCuts.l0 k links l acc (l.length : Int) ((i + 1 : Nat) : Int)) (fun k => ?_) (Ev.bind hp (Ev.pos c (Ev.eq h (by rw [needR, if_pos c]; simp))))
    rw [impl_NeedlessCuts.l0, if_pos (by omega), impl_without.val l i (by omega) (by omega), Option.bind_some, hw]
    congr 1; funext t; split
    · rw [if_pos (by omega)]
    · rfl
  · have h := impl_NeedlessCuts.ev_l hc d (i + 1) acc (by omega) (by omega)
    refine Ev.step (f := fun k => (impl_pays.f k links (l.eraseIdx i)).bind fun t => if t = true then impl_NeedlessCuts.l0 k links l (acc ++ [(i : Int)]) (l.length : Int) ((i + 1 : Nat) : Int) else impl_NeedlessCuts.l0 k links l acc (l.length : Int) ((i + 1 : Nat) : Int)) (fun k => ?_) (Ev.bind hp (Ev.neg c (Ev.eq h (by rw [needR, if_neg c]))))
    rw [impl_NeedlessCuts.l0, if_pos (by omega), impl_without.val l i (by omega) (by omega), Option.bind_some, hw]
    congr 1; funext t; split
    · rw [if_pos (by omega)]
    · rfl
theorem spec_NeedlessCuts.ev_l {links : Int} {l : List Int} (hc : cutsB links l = true) : ∀ (d i : Nat) (acc : List Int), i + d = l.length → acc.length ≤ i → Ev (fun k => spec_NeedlessCuts.l0 k links l acc (l.length : Int) (i : Int)) (acc ++ needR links l d i, true)
 | 0, i, acc, hd, _ => by
  refine Ev.step (f := fun _ => some (acc, true)) (fun k => ?_) (Ev.val (by rw [needR, List.append_nil]))
  rw [spec_NeedlessCuts.l0, if_neg (by omega)]
 | d + 1, i, acc, hd, ha => by
  have hl := (cutsB_in hc).2.2.1
  have hp := spec_chPay.ev (cutsB_erase hc i)
  have hw : wrap64 ((i : Int) + 1) = ((i + 1 : Nat) : Int) := by rw [w64 (by omega) (by omega)]; omega
  have he : l.take i ++ l.drop (i + 1) = l.eraseIdx i := (List.eraseIdx_eq_take_drop_succ l i).symm
  have hg : ∀ k, spec_NeedlessCuts.l0 (k + 1) links l acc (l.length : Int) (i : Int) = (spec_chPay.f k links (l.eraseIdx i)).bind fun t => if t = true then spec_NeedlessCuts.l0 k links l (acc ++ [(i : Int)]) (l.length : Int) ((i + 1 : Nat) : Int) else spec_NeedlessCuts.l0 k links l acc (l.length : Int) ((i + 1 : Nat) : Int) := by
   intro k
   rw [spec_NeedlessCuts.l0, if_pos (by omega), if_pos (by omega), if_pos (by omega), hw]
   simp only [Int.toNat_natCast]
   rw [spec_l1Own.val _ (by simp; omega), Option.bind_some, if_pos (by omega), if_pos (by omega), if_pos (by simp; omega), he]
   congr 1; funext t; split
   · rw [if_pos (by omega)]
   · rfl
  by_cases c : (runPB links (l.eraseIdx i) == links) = true
  · have h := spec_NeedlessCuts.ev_l hc d (i + 1) (acc ++ [(i : Int)]) (by omega) (by simp; omega)
    exact Ev.step (f := fun k => (spec_chPay.f k links (l.eraseIdx i)).bind fun t => if t = true then spec_NeedlessCuts.l0 k links l (acc ++ [(i : Int)]) (l.length : Int) ((i + 1 : Nat) : Int) else spec_NeedlessCuts.l0 k links l acc (l.length : Int) ((i + 1 : Nat) : Int)) hg (Ev.bind hp (Ev.pos c (Ev.eq h (by rw [needR, if_pos c]; simp))))
  · have h := spec_NeedlessCuts.ev_l hc d (i + 1) acc (by omega) (by omega)
    exact Ev.step (f := fun k => (spec_chPay.f k links (l.eraseIdx i)).bind fun t => if t = true then spec_NeedlessCuts.l0 k links l (acc ++ [(i : Int)]) (l.length : Int) ((i + 1 : Nat) : Int) else spec_NeedlessCuts.l0 k links l acc (l.length : Int) ((i + 1 : Nat) : Int)) hg (Ev.bind hp (Ev.neg c (Ev.eq h (by rw [needR, if_neg c]))))
def needCutsB (a : Int) (l : List Int) : List Int × Bool := if cutsB a l = true ∧ (runPB a l == a) = true then (needR a l l.length 0, true) else ([], false)
theorem impl_NeedlessCuts.ev (a : Int) (l : List Int) (hl : l.length ≤ 9223372036854775806) : Ev (fun k => impl_NeedlessCuts.f k a l) (needCutsB a l) := by
 refine Ev.bind (impl_DoCutsPay.ev a l hl) ?_
 unfold doPayB
 by_cases c : cutsB a l = true
 · rw [if_pos c]
   refine Ev.ite (fun d => ?_) (fun d => Ev.val (by rw [needCutsB, if_neg (fun h => d h.2)]))
   exact Ev.eq (impl_NeedlessCuts.ev_l c l.length 0 [] (by omega) (by simp)) (by rw [needCutsB, if_pos ⟨c, d⟩]; rfl)
 · rw [if_neg c]
   exact Ev.neg (by simp) (Ev.val (by rw [needCutsB, if_neg (fun h => c h.1)]))
theorem spec_NeedlessCuts.ev (a : Int) (l : List Int) (hl : l.length ≤ 9223372036854775806) : Ev (fun k => spec_NeedlessCuts.f k a l) (needCutsB a l) := by
 refine Ev.bind (spec_chCuts.ev a l hl) (Ev.ite (fun c => ?_) (fun c => ?_))
 · refine Ev.bind (spec_chPay.ev c) ?_
   apply Ev.step
   · intro k; rw [spec_NeedlessCuts.j0]
   by_cases d : (runPB a l == a) = true
   · exact Ev.neg (by rw [d]; decide) (Ev.eq (spec_NeedlessCuts.ev_l c l.length 0 [] (by omega) (by simp)) (by rw [needCutsB, if_pos ⟨c, d⟩]; rfl))
   · exact Ev.pos (by rw [Bool.not_eq_true] at d; rw [d]; rfl) (Ev.val (by rw [needCutsB, if_neg (fun h => d h.2)]))
 · apply Ev.step
   · intro k; rw [spec_NeedlessCuts.j0]
   exact Ev.pos rfl (Ev.val (by rw [needCutsB, if_neg (fun h => c h.1)]))
theorem sortedB_of_pairwise : ∀ l : List Int, l.Pairwise (fun x y => x ≤ y) → sortedB l = true
 | [], _ => rfl
 | [_], _ => rfl
 | x :: y :: s, h => by
  rw [List.pairwise_cons] at h
  rw [sortedB, sortedB_of_pairwise (y :: s) h.2, decide_eq_true (h.1 y (by simp))]; rfl
/-- The cuts told from the other end. -/
def mirL (a : Int) (l : List Int) : List Int := l.reverse.map fun c => a - 1 - c
theorem mirL_mirL (a : Int) (l : List Int) : mirL a (mirL a l) = l := by
 unfold mirL
 rw [← List.map_reverse, List.reverse_reverse, List.map_map]
 conv => rhs; rw [← List.map_id l]
 exact List.map_congr_left (fun x _ => by simp; omega)
theorem partsL_snoc (hi : Int) (c : Int) : ∀ (l : List Int) (lo : Int), lo ≤ c → (∀ x ∈ l, lo ≤ x ∧ x < c) → l.Pairwise (fun x y => x < y) → partsL hi (l ++ [c]) lo = partsL c l lo ++ 1 :: (if c + 1 < hi then [hi - (c + 1)] else [])
 | [], lo, h1, _, _ => by
  simp only [List.nil_append, partsL]
  by_cases e : lo < c
  · rw [if_pos e, if_pos e]; rfl
  · rw [if_neg e, if_neg e]; rfl
 | x :: l, lo, h1, h2, h3 => by
  rw [List.pairwise_cons] at h3
  have hx := h2 x (by simp)
  have ih := partsL_snoc hi c l (x + 1) (by omega) (fun y hy => ⟨by have := h3.1 y hy; omega, (h2 y (by simp [hy])).2⟩) h3.2
  simp only [List.cons_append, partsL, ih]
  split <;> simp
theorem partsL_mirror (s lo : Int) : ∀ (n : Nat) (l : List Int) (hi : Int), l.length = n → lo ≤ hi → (∀ x ∈ l, lo ≤ x ∧ x < hi) → l.Pairwise (fun x y => x < y) → partsL (s - lo) (l.reverse.map fun c => s - 1 - c) (s - hi) = (partsL hi l lo).reverse := by
 intro n
 induction n with
 | zero =>
  intro l hi hl h1 h2 h3
  obtain rfl := List.eq_nil_of_length_eq_zero hl
  simp only [List.reverse_nil, List.map_nil, partsL]
  by_cases e : lo < hi
  · rw [if_pos (by omega), if_pos e]; simp; omega
  · rw [if_neg (by omega), if_neg e]; rfl
 | succ n ih =>
  intro l hi hl h1 h2 h3
  obtain ⟨m, c, rfl⟩ : ∃ m c, l = m ++ [c] := by
   rcases List.eq_nil_or_concat l with e | ⟨m, c, e⟩
   · subst e; simp at hl
   · exact ⟨m, c, by rw [e, List.concat_eq_append]⟩
  rw [List.pairwise_append] at h3
  have hc := h2 c (by simp)
  have hm : ∀ x ∈ m, lo ≤ x ∧ x < c := fun x hx => ⟨(h2 x (by simp [hx])).1, h3.2.2 x hx c (by simp)⟩
  have h := ih m c (by simp at hl; omega) (by omega) hm h3.1
  rw [partsL_snoc hi c m lo (by omega) hm h3.1, List.reverse_append (bs := 1 :: _), List.reverse_cons, ← h, List.reverse_append]
  simp only [List.reverse_cons, List.reverse_nil, List.nil_append, List.singleton_append, List.map_cons, partsL]
  rw [show s - 1 - c + 1 = s - c by omega]
  by_cases e : c + 1 < hi
  · rw [if_pos (by omega), if_pos e]; simp; omega
  · rw [if_neg (by omega), if_neg e]; simp
theorem cutsB_iff (a : Int) (l : List Int) : cutsB a l = true ↔ 1 ≤ a ∧ a ≤ 1000 ∧ l.length ≤ 9 ∧ (∀ x ∈ l, 0 ≤ x ∧ x ≤ a - 1) ∧ l.Pairwise (fun x y => x < y) := by
 constructor
 · intro h
   have h' := cutsB_in h
   refine ⟨h'.1, h'.2.1, h'.2.2.1, h'.2.2.2, pairwise_of_rises l ?_⟩
   unfold cutsB at h; simp at h; exact h.2.2.2
 · rintro ⟨h1, h2, h3, h4, h5⟩
   unfold cutsB inB
   rw [rises_of_pairwise l h5, decide_eq_true h1, decide_eq_true h2, decide_eq_true h3]
   simp only [Bool.true_and, Bool.and_true, List.all_eq_true, Bool.and_eq_true, decide_eq_true_eq]
   exact h4
theorem mirL_cuts {a : Int} {l : List Int} (h : cutsB a l = true) : cutsB a (mirL a l) = true := by
 rw [cutsB_iff] at h ⊢
 obtain ⟨h1, h2, h3, h4, h5⟩ := h
 refine ⟨h1, h2, by simp [mirL, h3], fun x hx => ?_, ?_⟩
 · unfold mirL at hx
   obtain ⟨c, hc, rfl⟩ := List.mem_map.1 hx
   have := h4 c (by simpa using hc); omega
 · unfold mirL
   rw [List.pairwise_map, List.pairwise_reverse]
   exact h5.imp (fun h => by omega)
theorem mirL_pieces {a : Int} {l : List Int} (h : cutsB a l = true) : piecesB a (mirL a l) = piecesB a l := by
 rw [cutsB_iff] at h
 obtain ⟨h1, h2, h3, h4, h5⟩ := h
 have e := partsL_mirror a 0 l.length l a rfl (by omega) (fun x hx => by have := h4 x hx; omega) h5
 rw [Int.sub_zero, Int.sub_self] at e
 unfold piecesB
 refine perm_sorted_eq _ _ ?_ (sortL_sorted _) (sortL_sorted _)
 refine (sortL_perm _).trans (List.Perm.trans ?_ (sortL_perm _).symm)
 unfold mirL
 rw [e]
 exact List.reverse_perm _
theorem partsL_sum (hi : Int) : ∀ (l : List Int) (lo : Int), lo ≤ hi → (∀ x ∈ l, lo ≤ x ∧ x < hi) → l.Pairwise (fun x y => x < y) → (partsL hi l lo).sum = hi - lo
 | [], lo, h1, _, _ => by
  rw [partsL]
  split
  · simp
  · simp; omega
 | x :: l, lo, h1, h2, h3 => by
  rw [List.pairwise_cons] at h3
  have hx := h2 x (by simp)
  have ih := partsL_sum hi l (x + 1) (by omega) (fun y hy => ⟨by have := h3.1 y hy; omega, (h2 y (by simp [hy])).2⟩) h3.2
  rw [partsL]
  split
  · simp [ih]; omega
  · simp [ih]; omega
theorem cuts_sum {a : Int} {l : List Int} (h : cutsB a l = true) : (partsL a l 0).sum = a := by
 rw [cutsB_iff] at h
 obtain ⟨h1, h2, h3, h4, h5⟩ := h
 rw [partsL_sum a l 0 (by omega) (fun x hx => by have := h4 x hx; omega) h5]; omega
theorem sum_perm {l m : List Int} (h : l.Perm m) : l.sum = m.sum := by
 induction h with
 | nil => rfl
 | cons x _ ih => simp [ih]
 | swap x y l => simp; omega
 | trans _ _ h1 h2 => exact h1.trans h2
theorem pieces_sum {a : Int} {l : List Int} (h : cutsB a l = true) : (piecesB a l).sum = a := by
 exact (sum_perm (sortL_perm _)).trans (cuts_sum h)
/-- The pieces of n cuts are n of one link and at most n + 1 others. -/
theorem parts_perm (hi : Int) : ∀ (l : List Int) (n : Int), ∃ o : List Int, (partsL hi l n).Perm (List.replicate l.length 1 ++ o) ∧ o.length ≤ l.length + 1 ∧ (∀ x ∈ o, 1 ≤ x)
 | [], n => ⟨partsL hi [] n, by simp, by rw [partsL]; split <;> simp, partsL_ge hi [] n⟩
 | c :: s, n => by
  obtain ⟨o, h1, h2, h3⟩ := parts_perm hi s (c + 1)
  by_cases e : n < c
  · refine ⟨(c - n) :: o, ?_, by simp; omega, fun x hx => ?_⟩
    · rw [partsL, if_pos e]
      simp only [List.length_cons, List.replicate_succ, List.cons_append]
      refine ((h1.cons 1).cons (c - n)).trans ?_
      refine (List.Perm.swap _ _ _).trans (List.Perm.cons 1 ?_)
      exact List.perm_middle.symm
    · rcases List.mem_cons.1 hx with e1 | e1
      · omega
      · exact h3 x e1
  · refine ⟨o, ?_, by simp; omega, h3⟩
    rw [partsL, if_neg e]
    simp only [List.length_cons, List.replicate_succ, List.cons_append]
    exact h1.cons 1
theorem pairwise_replicate1 (n : Nat) (o : List Int) (ho : ∀ x ∈ o, 1 ≤ x) (h : o.Pairwise (fun x y => x ≤ y)) : (List.replicate n (1 : Int) ++ o).Pairwise (fun x y => x ≤ y) := by
 rw [List.pairwise_append]
 refine ⟨?_, h, fun x hx y hy => ?_⟩
 · rw [List.pairwise_replicate]; omega
 · have := List.eq_of_mem_replicate hx; have := ho y hy; omega
theorem pieces_form (a : Int) (l : List Int) : ∃ o : List Int, piecesB a l = List.replicate l.length 1 ++ o ∧ o.length ≤ l.length + 1 := by
 obtain ⟨o, h1, h2, h3⟩ := parts_perm a l 0
 refine ⟨sortL o, ?_, by rw [sortL_length]; exact h2⟩
 unfold piecesB
 refine perm_sorted_eq _ _ ?_ (sortL_sorted _) (pairwise_replicate1 _ _ (fun x hx => h3 x ((sortL_perm o).subset hx)) (sortL_sorted _))
 exact (sortL_perm _).trans (h1.trans ((sortL_perm o).symm.append_left _))
theorem runL_ones (o : List Int) : ∀ (n : Nat) (r : Int), 0 ≤ r → runL (List.replicate n 1 ++ o) r = runL o (r + n)
 | 0, r, _ => by simp
 | n + 1, r, h => by
  rw [List.replicate_succ, List.cons_append, runL, if_neg (by omega), runL_ones o n (r + 1) (by omega)]
  congr 1; omega
theorem pow2_pos (n : Nat) : (1 : Int) ≤ 2 ^ n := by
 induction n with
 | zero => simp
 | succ n ih => rw [Int.pow_succ]; omega
theorem runL_le : ∀ (o : List Int) (r : Int), 0 ≤ r → (∀ x ∈ o, 0 ≤ x) → runL o r + 1 ≤ (r + 1) * 2 ^ o.length
 | [], r, h, _ => by simp [runL]
 | x :: o, r, h, ho => by
  have hx := ho x (by simp)
  have hp : (1 : Int) ≤ 2 ^ o.length := pow2_pos _
  rw [runL]
  split
  · rw [List.length_cons, Int.pow_succ]
    have : (r + 1) * 1 ≤ (r + 1) * (2 ^ o.length * 2) := Int.mul_le_mul_of_nonneg_left (by omega) (by omega)
    omega
  · have ih := runL_le o (r + x) (by omega) (fun y hy => ho y (by simp [hy]))
    refine Int.le_trans ih ?_
    rw [List.length_cons, Int.pow_succ, Int.mul_comm (2 ^ o.length) 2, ← Int.mul_assoc]
    exact Int.mul_le_mul_of_nonneg_right (by omega) (by omega)
theorem pow2_mono {m n : Nat} (h : m ≤ n) : (2 : Int) ^ m ≤ 2 ^ n := by
 obtain ⟨d, rfl⟩ : ∃ d, n = m + d := ⟨n - m, by omega⟩
 have h1 : (1 : Int) ≤ 2 ^ d := pow2_pos _
 have h2 : (1 : Int) ≤ 2 ^ m := pow2_pos _
 rw [Int.pow_add]
 have := Int.mul_le_mul_of_nonneg_left h1 (show (0 : Int) ≤ 2 ^ m by omega)
 omega
/-- No cuts pay for a longer chain. -/
theorem run_bound {a : Int} {l : List Int} (h : cutsB a l = true) : runPB a l ≤ ((l.length : Int) + 1) * 2 ^ (l.length + 1) - 1 := by
 obtain ⟨o, e, ho⟩ := pieces_form a l
 have hin : ∀ x ∈ piecesB a l, 1 ≤ x := fun x hx => partsL_ge a l 0 x ((sortL_perm _).subset hx)
 unfold runPB
 rw [e, runL_ones o l.length 0 (by omega)]
 have h1 := runL_le o (0 + (l.length : Int)) (by omega) (fun x hx => by have := hin x (by rw [e]; simp [hx]); omega)
 have h2 := Int.mul_le_mul_of_nonneg_left (pow2_mono ho) (show (0 : Int) ≤ (l.length : Int) + 1 by omega)
 rw [Int.zero_add] at h1 ⊢
 omega
theorem pieces_good {a : Int} {l : List Int} (h : cutsB a l = true) : piGoodB (piecesB a l) = true := by
 have hc := cutsB_in h
 have h1 := piecesB_in a hc.2.1 l (fun x hx => by have := hc.2.2.2 x hx; omega)
 unfold piGoodB
 rw [show sortedB (piecesB a l) = true from sortedB_of_pairwise _ (sortL_sorted _)]
 obtain ⟨o, e, ho⟩ := pieces_form a l
 have hl : (piecesB a l).length ≤ 20 := by rw [e]; simp; omega
 rw [decide_eq_true hl]
 simp only [Bool.true_and, Bool.and_true, List.all_eq_true, Bool.and_eq_true, decide_eq_true_eq]
 intro x hx
 have := h1 x hx; omega
theorem pieces_count (a : Int) (l : List Int) : l.length ≤ (piecesB a l).count 1 := by
 obtain ⟨o, e, _⟩ := pieces_form a l
 rw [e, List.count_append, List.count_replicate_self]; omega
theorem turned_cuts {a : Int} {l : List Int} (h : cutsB a l = true) : cutsB a (turnedB l) = true := by
 rw [cutsB_iff] at h ⊢
 obtain ⟨h1, h2, h3, h4, h5⟩ := h
 refine ⟨h1, h2, by simpa [turnedB] using h3, fun x hx => ?_, ?_⟩
 · unfold turnedB at hx
   obtain ⟨c, hc, rfl⟩ := List.mem_map.1 hx
   cases l with
   | nil => cases hc
   | cons y s =>
    have e : rd (y :: s) 0 = y := rfl
    rw [e]
    have hy := h4 y (by simp)
    have := h4 c hc
    rcases List.mem_cons.1 hc with e | e
    · omega
    · have := (List.pairwise_cons.1 h5).1 c e; omega
 · unfold turnedB
   rw [List.pairwise_map]
   exact h5.imp (fun h => by omega)
theorem turned_length {a : Int} {l : List Int} (hne : l ≠ []) : (piecesB a (turnedB l)).length ≤ 2 * l.length := by
 unfold piecesB
 rw [sortL_length]
 cases l with
 | nil => exact absurd rfl hne
 | cons y s =>
  have e : rd (y :: s) 0 = y := rfl
  obtain ⟨o, h1, h2, _⟩ := parts_perm a (s.map fun c => c - y) (y - y + 1)
  have h3 := h1.length_eq
  unfold turnedB
  rw [e, List.map_cons, partsL, if_neg (by omega)]
  simp at h3 h2 ⊢
  omega
def partsOfB (a : Int) (l : List Int) : List Int × Bool := if cutsB a l = true then (partsL a l 0, true) else ([], false)
theorem spec_PartsOfCuts.ev (a : Int) (l : List Int) (hl : l.length ≤ 9223372036854775806) : Ev (fun k => spec_PartsOfCuts.f k a l) (partsOfB a l) := by
 refine Ev.bind (spec_chCuts.ev a l hl) (Ev.ite (fun c => ?_) (fun c => Ev.val (by rw [partsOfB, if_neg c])))
 have hc := cutsB_in c
 exact Ev.bind (spec_chParts.ev a (by omega) hc.2.1 l hc.2.2.1 (cutsB_in' c)) (Ev.val (by rw [partsOfB, if_pos c]))
theorem impl_PartsOfCuts.ev (a : Int) (l : List Int) (hl : l.length ≤ 9223372036854775806) : Ev (fun k => impl_PartsOfCuts.f k a l) (partsOfB a l) := by
 refine Ev.bind (impl_AreCuts.ev a l hl) (Ev.ite (fun c => ?_) (fun c => Ev.val (by rw [partsOfB, if_neg c])))
 have hc := cutsB_in c
 exact Ev.bind (impl_parts.ev a (by omega) hc.2.1 l hc.2.2.1 (cutsB_in' c)) (Ev.val (by rw [partsOfB, if_pos c]))
def mirB (a : Int) (l : List Int) : List Int × Bool := if cutsB a l = true then (mirL a l, true) else ([], false)
theorem impl_MirrorCuts.ev (a : Int) (l : List Int) (hl : l.length ≤ 9223372036854775806) : Ev (fun k => impl_MirrorCuts.f k a l) (mirB a l) := by
 unfold impl_MirrorCuts.f
 refine Ev.bind (impl_AreCuts.ev a l hl) (Ev.ite (fun c => ?_) (fun c => Ev.val (by rw [mirB, if_neg c])))
 have hc := cutsB_in c
 refine Ev.pos (by omega) (Ev.val ?_)
 rw [mirB, if_pos c, mirL]
 congr 1
 refine List.map_congr_left (fun x hx => ?_)
 have := hc.2.2.2 x (by simpa using hx)
 rw [w64 (n := a - 1) (by omega) (by omega), w64 (by omega) (by omega)]
theorem spec_MirrorCuts.ev_l (a : Int) (ha : 1 ≤ a ∧ a ≤ 1000) : ∀ (p s acc : List Int), (∀ x ∈ p, 0 ≤ x ∧ x ≤ 1000) → p.length ≤ 1000 → acc.length + p.length ≤ 1000 → Ev (fun k => spec_MirrorCuts.l0 k a (p ++ s) acc ((p.length : Int) - 1)) (acc ++ mirL a p, true) := by
 intro p
 suffices h : ∀ (n : Nat) (p s acc : List Int), p.length = n → (∀ x ∈ p, 0 ≤ x ∧ x ≤ 1000) → p.length ≤ 1000 → acc.length + p.length ≤ 1000 → Ev (fun k => spec_MirrorCuts.l0 k a (p ++ s) acc ((p.length : Int) - 1)) (acc ++ mirL a p, true) from fun s acc => h p.length p s acc rfl
 intro n
 induction n with
 | zero =>
  intro p s acc hn hx h1 h2
  obtain rfl := List.eq_nil_of_length_eq_zero hn
  refine Ev.step (f := fun _ => some (acc, true)) (fun k => ?_) (Ev.val (by simp [mirL]))
  rw [spec_MirrorCuts.l0, if_neg (by simp)]
 | succ n ih =>
  intro p s acc hn hx h1 h2
  obtain ⟨m, c, rfl⟩ : ∃ m c, p = m ++ [c] := by
   rcases List.eq_nil_or_concat p with e | ⟨m, c, e⟩
   · subst e; simp at hn
   · exact ⟨m, c, by rw [e, List.concat_eq_append]⟩
  have hc := hx c (by simp)
  have e0 : (((m ++ [c]).length : Nat) : Int) - 1 = (m.length : Int) := by simp
  have e1 : rd (m ++ [c] ++ s) (m.length : Int) = c := by rw [List.append_assoc, List.singleton_append]; exact rd_app m c s
  have h := ih m (c :: s) (acc ++ [a - 1 - c]) (by simpa using hn) (fun x hx' => hx x (by simp [hx'])) (by simp at h1; omega) (by simp at h2 ⊢; omega)
  refine Ev.step (f := fun k => spec_MirrorCuts.l0 k a (m ++ c :: s) (acc ++ [a - 1 - c]) ((m.length : Int) - 1)) (fun k => ?_) (Ev.eq h (by simp [mirL]))
  simp only [List.length_append, List.length_cons, List.length_nil] at h1 h2
  rw [e0, spec_MirrorCuts.l0, if_pos (by omega), if_pos (by omega), if_pos (by simp; omega), if_pos (by omega), e1, w64 (n := a - 1) (by omega) (by omega), w64 (n := a - 1 - c) (by omega) (by omega), w64 (by omega) (by omega)]
  simp
theorem spec_MirrorCuts.ev (a : Int) (l : List Int) (hl : l.length ≤ 9223372036854775806) : Ev (fun k => spec_MirrorCuts.f k a l) (mirB a l) := by
 unfold spec_MirrorCuts.f
 refine Ev.bind (spec_chCuts.ev a l hl) (Ev.ite (fun c => ?_) (fun c => Ev.val (by rw [mirB, if_neg c])))
 have hc := cutsB_in c
 rw [w64 (by omega) (by omega)]
 have h := spec_MirrorCuts.ev_l a ⟨hc.1, hc.2.1⟩ l [] [] (cutsB_in' c) (by omega) (by simp; omega)
 rw [List.append_nil] at h
 exact Ev.eq h (by rw [mirB, if_pos c]; rfl)
def mostI (n : Nat) : Int := ((n : Int) + 1) * 2 ^ (n + 1) - 1
theorem mostLinks_n : ∀ n : Nat, n ≤ 9 → impl_mostLinks.f (n : Int) = some (mostI n)
 | 0, _ => by kernel_rfl
 | 1, _ => by kernel_rfl
 | 2, _ => by kernel_rfl
 | 3, _ => by kernel_rfl
 | 4, _ => by kernel_rfl
 | 5, _ => by kernel_rfl
 | 6, _ => by kernel_rfl
 | 7, _ => by kernel_rfl
 | 8, _ => by kernel_rfl
 | 9, _ => by kernel_rfl
 | n + 10, h => by omega
theorem fewO_to (links : Int) (n : Nat) (hn : n ≤ 9) (h : links ≤ mostI n) : ∀ (d c : Nat), c + d = n → ∃ r : Nat, r ≤ n ∧ Ev (fun k => fewO links k (c : Int)) (r : Int)
 | 0, c, hc => by
  obtain rfl : c = n := by omega
  exact ⟨c, Nat.le_refl _, Ev.step (f := fun _ => some (c : Int)) (fun k => by rw [fewO, mostLinks_n c hn, Option.bind_some, if_neg (by omega)]) (Ev.val rfl)⟩
 | d + 1, c, hc => by
  obtain ⟨r, hr, e⟩ := fewO_to links n hn h d (c + 1) (by omega)
  by_cases q : mostI c < links
  · refine ⟨r, hr, Ev.step (f := fun k => fewO links k ((c + 1 : Nat) : Int)) (fun k => ?_) e⟩
    rw [fewO, mostLinks_n c (by omega), Option.bind_some, if_pos q, w64 (by omega) (by omega)]; rfl
  · refine ⟨c, by omega, Ev.step (f := fun _ => some (c : Int)) (fun k => ?_) (Ev.val rfl)⟩
    rw [fewO, mostLinks_n c (by omega), Option.bind_some, if_neg q]
theorem fewest_to (links : Int) (h1 : 1 ≤ links) (h2 : links ≤ 1000) (n : Nat) (hn : n ≤ 9) (h : links ≤ mostI n) : ∃ r : Nat, r ≤ n ∧ Ev (fun k => impl_FewestCuts.f k links) ((r : Int), true) := by
 obtain ⟨r, hr, e⟩ := fewO_to links n hn h n 0 (by omega)
 refine ⟨r, hr, ?_⟩
 unfold impl_FewestCuts.f
 exact Ev.pos ⟨h1, by omega⟩ (Ev.bind e (Ev.val rfl))
theorem needR_mem (links : Int) (l : List Int) (j : Nat) : ∀ d i, (j : Int) ∈ needR links l d i ↔ i ≤ j ∧ j < i + d ∧ (runPB links (l.eraseIdx j) == links) = true
 | 0, i => by simp [needR]; omega
 | d + 1, i => by
  have ih := needR_mem links l j d (i + 1)
  rw [needR]
  split
  · rename_i c
    rw [List.mem_cons, ih]
    constructor
    · rintro (e | ⟨h1, h2, h3⟩)
      · have : j = i := by omega
        subst this; exact ⟨by omega, by omega, c⟩
      · exact ⟨by omega, by omega, h3⟩
    · rintro ⟨h1, h2, h3⟩
      by_cases e : j = i
      · exact .inl (by omega)
      · exact .inr ⟨by omega, by omega, h3⟩
  · rename_i c
    rw [ih]
    constructor
    · rintro ⟨h1, h2, h3⟩; exact ⟨by omega, by omega, h3⟩
    · rintro ⟨h1, h2, h3⟩
      by_cases e : j = i
      · subst e; exact absurd h3 c
      · exact ⟨by omega, by omega, h3⟩
theorem needR_rises (links : Int) (l : List Int) : ∀ d i, (needR links l d i).Pairwise (fun x y => x < y) ∧ ∀ x ∈ needR links l d i, (i : Int) ≤ x
 | 0, i => by simp [needR]
 | d + 1, i => by
  have ih := needR_rises links l d (i + 1)
  rw [needR]
  split
  · refine ⟨List.pairwise_cons.2 ⟨fun y hy => by have := ih.2 y hy; omega, ih.1⟩, fun x hx => ?_⟩
    rcases List.mem_cons.1 hx with e | e
    · omega
    · have := ih.2 x e; omega
  · exact ⟨ih.1, fun x hx => by have := ih.2 x hx; omega⟩
/-! ### What a reader of random bytes yields -/
def BytesL (l : List Int) : Prop := l.length ≤ 1048576 ∧ ∀ x ∈ l, 0 ≤ x ∧ x ≤ 255
theorem rd_bytes {l : List Int} (h : BytesL l) {i : Int} (h0 : 0 ≤ i) (h1 : i < (l.length : Int)) : 0 ≤ rd l i ∧ rd l i ≤ 255 := by
 obtain ⟨n, rfl⟩ := Int.eq_ofNat_of_zero_le h0
 have hn : n < l.length := by omega
 rw [rd_eq l n hn]
 exact h.2 _ (List.getElem_mem hn)
theorem u64_range (n : Int) : 0 ≤ IntKind.u64.wrap n ∧ IntKind.u64.wrap n < 18446744073709551616 := by
 have : IntKind.u64.wrap n = n % 18446744073709551616 := by simp [IntKind.wrap, IntKind.bits, IntKind.signed]
 rw [this]; omega
theorem seed_byte (n : Int) : 0 ≤ wrap64 (Go.bits .and .u64 (IntKind.u64.wrap n / 1099511627776) 255) ∧ wrap64 (Go.bits .and .u64 (IntKind.u64.wrap n / 1099511627776) 255) ≤ 255 := by
 have h := u64_range n
 generalize IntKind.u64.wrap n = m at *
 have hk : ∀ n : Int, 0 ≤ n → n < 2 ^ 63 → IntKind.u64.wrap n = n := fun n h0 h1 => by
  have : IntKind.u64.wrap n = n % 18446744073709551616 := by simp [IntKind.wrap, IntKind.bits, IntKind.signed]
  rw [this]; omega
 have e : Go.bits .and .u64 (m / 1099511627776) 255 = (m / 1099511627776) % 256 := Go.bits_mask .u64 63 (by decide) hk 8 (by decide) _ (by omega) (by omega)
 rw [e, w64 (by omega) (by omega)]; omega
theorem cur_next {l : List Int} (h : BytesL l) {a : Int} (b : Int) (h0 : 0 ≤ a) (h1 : a ≤ 1000000000000) : ∃ r t, spec_l1Cur_next.f l a b = some (r, a + 1, t) ∧ 0 ≤ r ∧ r ≤ 255 := by
 have ew : wrap64 (a + 1) = a + 1 := w64 (by omega) (by omega)
 have hl := h.1
 unfold spec_l1Cur_next.f
 rw [ew]
 by_cases c : a < (l.length : Int)
 · have hb := rd_bytes h h0 c
   rw [if_pos c, if_pos h0, if_pos (by omega), w64 (n := rd l a) (by omega) (by omega)]
   exact ⟨_, _, rfl, hb.1, hb.2⟩
 · rw [if_neg c, if_neg (by omega)]
   exact ⟨_, _, rfl, (seed_byte _).1, (seed_byte _).2⟩
theorem cur_pick {l : List Int} (h : BytesL l) {a : Int} (b : Int) {n : Int} (h0 : 0 ≤ a) (h1 : a ≤ 999999999999) (hn : 1 ≤ n) (hn' : n ≤ 65536) : ∃ r a' t, spec_l1Cur_pick.f l a b n = some (r, a', t) ∧ 0 ≤ r ∧ r < n ∧ a ≤ a' ∧ a' ≤ a + 2 := by
 unfold spec_l1Cur_pick.f
 by_cases c : n ≤ 1
 · rw [if_pos c]; exact ⟨_, _, _, rfl, by omega, by omega, by omega, by omega⟩
 · rw [if_neg c]
   obtain ⟨r, t, e, hr0, hr1⟩ := cur_next h b h0 (by omega)
   rw [e, Option.bind_some]
   by_cases d : n > 200
   · obtain ⟨r', t', e', hr0', hr1'⟩ := cur_next h t (a := a + 1) (by omega) (by omega)
     have e1 : wrap64 (r * 256) = r * 256 := w64 (by omega) (by omega)
     have e2 : wrap64 (r * 256 + r') = r * 256 + r' := w64 (by omega) (by omega)
     simp only
     rw [if_pos d, e', Option.bind_some, if_neg (by omega)]
     simp only
     rw [e1, e2]
     refine ⟨_, _, _, rfl, Int.tmod_nonneg _ (by omega), Int.tmod_lt_of_pos _ (by omega), by omega, by omega⟩
   · simp only
     rw [if_neg d, if_neg (by omega)]
     exact ⟨_, _, _, rfl, Int.tmod_nonneg _ hr0, Int.tmod_lt_of_pos _ (by omega), by omega, by omega⟩
theorem cur_among {l : List Int} (h : BytesL l) {a : Int} (b : Int) (m : List Int) (h0 : 0 ≤ a) (h1 : a ≤ 999999999999) (hn : 1 ≤ m.length) (hn' : m.length ≤ 65536) : ∃ r a' t, spec_l1Cur_among.f l a b m = some (r, a', t) ∧ r ∈ m ∧ a ≤ a' ∧ a' ≤ a + 2 := by
 unfold spec_l1Cur_among.f
 obtain ⟨r, a', t, e, hr0, hr1, ha, ha'⟩ := cur_pick h b (n := (m.length : Int)) h0 h1 (by omega) (by omega)
 rw [e, Option.bind_some]
 simp only
 rw [if_pos hr0, if_pos hr1]
 refine ⟨_, _, _, rfl, ?_, ha, ha'⟩
 obtain ⟨n, rfl⟩ := Int.eq_ofNat_of_zero_le hr0
 rw [rd_eq m n (by omega)]
 exact List.getElem_mem _
theorem cur_one {l : List Int} (h : BytesL l) {a : Int} (b : Int) {n : Int} (h0 : 0 ≤ a) (h1 : a ≤ 999999999999) (hn : 1 ≤ n) (hn' : n ≤ 65536) : ∃ r a' t, spec_l1Cur_one.f l a b n = some (r, a', t) ∧ a ≤ a' ∧ a' ≤ a + 2 := by
 unfold spec_l1Cur_one.f
 obtain ⟨r, a', t, e, hr0, hr1, ha, ha'⟩ := cur_pick h b h0 h1 hn hn'
 rw [e, Option.bind_some]
 exact ⟨_, _, _, rfl, ha, ha'⟩
theorem bytes_of {l : List Int} (h1 : l.length ≤ 1048576) (h : ∀ x ∈ l, (Lit.int .u8 x).wf = true) : BytesL l := ⟨h1, fun x hx => by
 have := h x hx
 simp [Lit.wf, IntKind.min, IntKind.max, IntKind.bits, IntKind.signed] at this
 omega⟩
theorem cfm_small {n : Int} (h0 : 0 ≤ n) (h1 : n ≤ 3) : ∃ y, Ev (fun k => spec_CutsForMost.f k n) (y, true) ∧ y.length ≤ 3 := by
 rcases (show n = 0 ∨ n = 1 ∨ n = 2 ∨ n = 3 by omega) with rfl | rfl | rfl | rfl
 · exact ⟨[], Ev.of (spec_CutsForMost.mono 0) (k := 8) (by kernel_rfl), by decide⟩
 · exact ⟨_, Ev.of (spec_CutsForMost.mono 1) (k := 8) (by kernel_rfl : _ = some (([2] : List Int), true)), by decide⟩
 · exact ⟨_, Ev.of (spec_CutsForMost.mono 2) (k := 8) (by kernel_rfl : _ = some (([3, 10] : List Int), true)), by decide⟩
 · exact ⟨_, Ev.of (spec_CutsForMost.mono 3) (k := 8) (by kernel_rfl : _ = some (([4, 13, 30] : List Int), true)), by decide⟩
theorem most_small {n : Int} (h0 : 0 ≤ n) (h1 : n ≤ 3) : ∃ m, spec_chMost.f n = some m ∧ 1 ≤ m ∧ m ≤ 63 := by
 rcases (show n = 0 ∨ n = 1 ∨ n = 2 ∨ n = 3 by omega) with rfl | rfl | rfl | rfl
 · exact ⟨1, by kernel_rfl, by decide, by decide⟩
 · exact ⟨7, by kernel_rfl, by decide, by decide⟩
 · exact ⟨23, by kernel_rfl, by decide, by decide⟩
 · exact ⟨63, by kernel_rfl, by decide, by decide⟩
def ChainR (g : Nat → Option (Int × List Int × Int × Int)) (a : Int) : Prop := ∃ x y t u, Ev g (x, y, t, u) ∧ y.length ≤ 20 ∧ 0 ≤ t ∧ t ≤ a
theorem ChainR.le {g : Nat → Option (Int × List Int × Int × Int)} {a b : Int} (h : ChainR g a) (hb : a ≤ b) : ChainR g b := by
 obtain ⟨x, y, t, u, h1, h2, h3, h4⟩ := h; exact ⟨x, y, t, u, h1, h2, h3, by omega⟩
theorem ChainR.step {g f : Nat → Option (Int × List Int × Int × Int)} {a : Int} (h : ∀ k, g (k + 1) = f k) (k : ChainR f a) : ChainR g a := by
 obtain ⟨x, y, t, u, h1, h2, h3, h4⟩ := k; exact ⟨x, y, t, u, Ev.step h h1, h2, h3, h4⟩
theorem ChainR.bindc {β : Type} {p : Option β} {f : Nat → β → Option (Int × List Int × Int × Int)} {x : β} {a : Int} (h : p = some x) (k : ChainR (fun n => f n x) a) : ChainR (fun n => p.bind (f n)) a := by
 obtain ⟨x, y, t, u, h1, h2, h3, h4⟩ := k; exact ⟨x, y, t, u, Ev.bindc h h1, h2, h3, h4⟩
theorem ChainR.bind {β : Type} {p : Nat → Option β} {f : Nat → β → Option (Int × List Int × Int × Int)} {x : β} {a : Int} (h : Ev p x) (k : ChainR (fun n => f n x) a) : ChainR (fun n => (p n).bind (f n)) a := by
 obtain ⟨x, y, t, u, h1, h2, h3, h4⟩ := k; exact ⟨x, y, t, u, Ev.bind h h1, h2, h3, h4⟩
theorem ChainR.ite {c : Prop} [Decidable c] {g f : Nat → Option (Int × List Int × Int × Int)} {a : Int} (h : c → ChainR g a) (h' : ¬ c → ChainR f a) : ChainR (fun k => if c then g k else f k) a := by
 by_cases d : c
 · obtain ⟨x, y, t, u, h1, h2, h3, h4⟩ := h d; exact ⟨x, y, t, u, Ev.pos d h1, h2, h3, h4⟩
 · obtain ⟨x, y, t, u, h1, h2, h3, h4⟩ := h' d; exact ⟨x, y, t, u, Ev.neg d h1, h2, h3, h4⟩
theorem ChainR.val {x : Int} {y : List Int} {t u a : Int} (h1 : y.length ≤ 20) (h2 : 0 ≤ t) (h3 : t ≤ a) : ChainR (fun _ => some (x, y, t, u)) a := ⟨x, y, t, u, Ev.now _, h1, h2, h3⟩
theorem ChainR.pos {c : Prop} [Decidable c] {g f : Nat → Option (Int × List Int × Int × Int)} {a : Int} (hc : c) (h : ChainR g a) : ChainR (fun k => if c then g k else f k) a := ChainR.ite (fun _ => h) (fun n => absurd hc n)
theorem ChainR.neg {c : Prop} [Decidable c] {g f : Nat → Option (Int × List Int × Int × Int)} {a : Int} (hc : ¬ c) (h : ChainR f a) : ChainR (fun k => if c then g k else f k) a := ChainR.ite (fun n => absurd n hc) (fun _ => h)
theorem chain_j2 {l : List Int} (h : BytesL l) (x4 : Int) (x5 : List Int) (hx : x5.length ≤ 20) (b : Bool) {a : Int} (s : Int) (h0 : 0 ≤ a) (h1 : a ≤ 900000000000) : ChainR (fun k => spec_l1Cur_chain.j2 k x4 x5 b l a s) (a + 10) := by
 refine ChainR.step (f := fun k => _) (fun k => by rw [spec_l1Cur_chain.j2]) ?_
 refine ChainR.ite (fun _ => ?_) (fun _ => ChainR.val hx (by first | omega | (dsimp only; omega)) (by first | omega | (dsimp only; omega)))
 obtain ⟨r, a1, s1, e1, hr0, hr1, ha, ha'⟩ := cur_pick h s (n := 4) h0 (by first | omega | (dsimp only; omega)) (by first | omega | (dsimp only; omega)) (by first | omega | (dsimp only; omega))
 obtain ⟨y, hy, hyl⟩ := cfm_small hr0 (by first | omega | (dsimp only; omega))
 obtain ⟨m, hm, _⟩ := most_small hr0 (by first | omega | (dsimp only; omega))
 obtain ⟨r2, a2, s2, e2, _, _, hb, hb'⟩ := cur_pick h s1 (a := a1) (n := 2) (by first | omega | (dsimp only; omega)) (by first | omega | (dsimp only; omega)) (by first | omega | (dsimp only; omega)) (by first | omega | (dsimp only; omega))
 exact ChainR.bindc e1 (ChainR.bind hy (ChainR.bindc hm (ChainR.bindc e2 (ChainR.val (by first | omega | (simp; omega)) (by first | omega | (simp; omega)) (by first | omega | (simp; omega))))))
theorem chain_l1 {l : List Int} (h : BytesL l) (x4 : Int) : ∀ (d : Nat) (x5 : List Int), x5.length + d = 11 → ∀ {a : Int} (s : Int), 0 ≤ a → a + 2 * (d : Int) ≤ 900000000000 → ChainR (fun k => spec_l1Cur_chain.l1 k x4 x5 l a s) (a + 2 * (d : Int) + 2) := by
 intro d
 induction d with
 | zero =>
  intro x5 hx a s h0 h1
  refine ChainR.step (f := fun k => _) (fun k => by rw [spec_l1Cur_chain.l1]) ?_
  obtain ⟨r, a1, s1, e1, hr0, hr1, ha, ha'⟩ := cur_pick h s (n := 2) h0 (by first | omega | (dsimp only; omega)) (by first | omega | (dsimp only; omega)) (by first | omega | (dsimp only; omega))
  refine ChainR.bindc e1 (ChainR.neg ?_ (ChainR.val (by first | omega | (dsimp only; omega)) (by first | omega | (simp; omega)) (by first | omega | (simp; omega))))
  simp only; rw [w64 (by first | omega | (dsimp only; omega)) (by first | omega | (dsimp only; omega))]; omega
 | succ d ih =>
  intro x5 hx a s h0 h1
  refine ChainR.step (f := fun k => _) (fun k => by rw [spec_l1Cur_chain.l1]) ?_
  obtain ⟨r, a1, s1, e1, hr0, hr1, ha, ha'⟩ := cur_pick h s (n := 2) h0 (by first | omega | (dsimp only; omega)) (by first | omega | (dsimp only; omega)) (by first | omega | (dsimp only; omega))
  refine ChainR.bindc e1 (ChainR.ite (fun _ => ChainR.pos (by first | omega | (dsimp only; omega)) ?_) (fun _ => ChainR.val (by first | omega | (dsimp only; omega)) (by first | omega | (simp; omega)) (by first | omega | (simp; omega))))
  exact (ih (x5 ++ [(x5.length : Int)]) (by first | omega | (simp; omega)) s1 (by first | omega | (dsimp only; omega)) (by first | omega | (dsimp only; omega))).le (by first | omega | (dsimp only; omega))
theorem chain_l0 {l : List Int} (h : BytesL l) (x4 : Int) : ∀ (d : Nat) (x5 : List Int) (x6 : Int), x5.length + d ≤ 10 → ∀ {a : Int} (s : Int), 0 ≤ a → a + 2 * (d : Int) ≤ 800000000000 → ChainR (fun k => spec_l1Cur_chain.l0 k x4 x5 x6 (d : Int) l a s) (a + 2 * (d : Int) + 50) := by
 intro d
 induction d with
 | zero =>
  intro x5 x6 hx a s h0 h1
  refine ChainR.step (f := fun k => _) (fun k => by rw [spec_l1Cur_chain.l0]) ?_
  refine ChainR.neg (by first | omega | (dsimp only; omega)) ?_
  obtain ⟨r, a1, s1, e1, hr0, hr1, ha, ha'⟩ := cur_pick h s (n := 16) h0 (by first | omega | (dsimp only; omega)) (by first | omega | (dsimp only; omega)) (by first | omega | (dsimp only; omega))
  refine ChainR.bindc e1 (ChainR.ite (fun _ => ?_) (fun _ => ChainR.ite (fun _ => ?_) (fun _ => ChainR.ite (fun _ => ?_) (fun _ => ChainR.ite (fun _ => ?_) (fun _ => ?_)))))
  · obtain ⟨r2, a2, s2, e2, _, hb, hb'⟩ := cur_among h s1 (a := a1) [(-1), 0, 1, 1000, 1001, 4611686018427387904] (by first | omega | (dsimp only; omega)) (by first | omega | (dsimp only; omega)) (by simp) (by simp)
    exact ChainR.bindc e2 (ChainR.val (by first | omega | (dsimp only; omega)) (by first | omega | (simp; omega)) (by first | omega | (simp; omega)))
  · obtain ⟨r2, a2, s2, e2, _, hb, hb'⟩ := cur_among h s1 (a := a1) [(-1), 0, wrap64 (x4 - 1), x4, 4611686018427387904] (by first | omega | (dsimp only; omega)) (by first | omega | (dsimp only; omega)) (by simp) (by simp)
    exact ChainR.bindc e2 (ChainR.pos (by first | omega | (dsimp only; omega)) (ChainR.val (by first | omega | (simp; omega)) (by first | omega | (simp; omega)) (by first | omega | (simp; omega))))
  · exact (chain_l1 h x4 11 [] (by simp) s1 (by first | omega | (dsimp only; omega)) (by first | omega | (dsimp only; omega))).le (by first | omega | (dsimp only; omega))
  · exact (chain_j2 h x4 x5 (by first | omega | (dsimp only; omega)) _ s1 (by first | omega | (dsimp only; omega)) (by first | omega | (dsimp only; omega))).le (by first | omega | (dsimp only; omega))
  · exact (chain_j2 h x4 x5 (by first | omega | (dsimp only; omega)) _ s1 (by first | omega | (dsimp only; omega)) (by first | omega | (dsimp only; omega))).le (by first | omega | (dsimp only; omega))
 | succ d ih =>
  intro x5 x6 hx a s h0 h1
  refine ChainR.step (f := fun k => _) (fun k => by rw [spec_l1Cur_chain.l0]) ?_
  refine ChainR.pos (by first | omega | (dsimp only; omega)) ?_
  obtain ⟨r, a1, s1, e1, hr0, hr1, ha, ha'⟩ := cur_pick h s (n := 14) h0 (by first | omega | (dsimp only; omega)) (by first | omega | (dsimp only; omega)) (by first | omega | (dsimp only; omega))
  have ed : wrap64 (((d + 1 : Nat) : Int) - 1) = (d : Int) := by rw [w64 (by first | omega | (dsimp only; omega)) (by first | omega | (dsimp only; omega))]; omega
  rw [ed]
  refine ChainR.bindc e1 (ChainR.ite (fun _ => ChainR.pos (by first | omega | (dsimp only; omega)) ?_) (fun _ => ?_))
  · exact (ih _ _ (by first | omega | (simp; omega)) s1 (by first | omega | (dsimp only; omega)) (by first | omega | (dsimp only; omega))).le (by first | omega | (dsimp only; omega))
  · exact (ih _ _ (by first | omega | (dsimp only; omega)) s1 (by first | omega | (dsimp only; omega)) (by first | omega | (dsimp only; omega))).le (by first | omega | (dsimp only; omega))
theorem chain_ev {l : List Int} (h : BytesL l) {a : Int} (s : Int) (h0 : 0 ≤ a) (h1 : a ≤ 700000000000) : ChainR (fun k => spec_l1Cur_chain.f k l a s) (a + 70) := by
 unfold spec_l1Cur_chain.f
 obtain ⟨r, a1, s1, e1, hr0, hr1, ha, ha'⟩ := cur_pick h s (n := 70) h0 (by first | omega | (dsimp only; omega)) (by first | omega | (dsimp only; omega)) (by first | omega | (dsimp only; omega))
 obtain ⟨r2, a2, s2, e2, hb0, hb1, hb, hb'⟩ := cur_pick h s1 (a := a1) (n := 5) (by first | omega | (dsimp only; omega)) (by first | omega | (dsimp only; omega)) (by first | omega | (dsimp only; omega)) (by first | omega | (dsimp only; omega))
 refine ChainR.bindc e1 (ChainR.bindc e2 ?_)
 obtain ⟨n, rfl⟩ := Int.eq_ofNat_of_zero_le hb0
 exact (chain_l0 h _ n [] (-1) (by first | omega | (simp; omega)) s2 (by first | omega | (dsimp only; omega)) (by first | omega | (dsimp only; omega))).le (by first | omega | (dsimp only; omega))
theorem drawAreCuts_ev {l : List Int} (h : BytesL l) : ∃ x y, Ev (fun k => spec_DrawAreCuts.f k l) (x, y) ∧ y.length ≤ 20 := by
 obtain ⟨x, y, t, u, h1, h2, _⟩ := chain_ev h 0 (a := 0) (by first | omega | (dsimp only; omega)) (by first | omega | (dsimp only; omega))
 refine ⟨x, y, ?_, h2⟩
 unfold spec_DrawAreCuts.f spec_DrawAreCuts_in.f
 exact Ev.bind (Ev.bind h1 (Ev.now _)) (Ev.now _)
theorem dnc_l0 {l : List Int} (h : BytesL l) (x5 : Int) : ∀ (d : Nat) (x6 : List Int) (x8 : Int), x6.length + d = 6 → ∀ {a : Int} (s : Int), 0 ≤ a → a + 2 * (d : Int) ≤ 900000000000 → ChainR (fun k => spec_DrawNeedlessCuts_in.l0 k x5 x6 x8 l a s) (a + 2 * (d : Int)) := by
 intro d
 induction d with
 | zero =>
  intro x6 x8 hx a s h0 h1
  refine ChainR.step (f := fun k => _) (fun k => by rw [spec_DrawNeedlessCuts_in.l0]) ?_
  exact ChainR.ite (fun _ => ChainR.neg (by first | omega | (dsimp only; omega)) (ChainR.val (by first | omega | (dsimp only; omega)) (by first | omega | (dsimp only; omega)) (by first | omega | (dsimp only; omega)))) (fun _ => ChainR.val (by first | omega | (dsimp only; omega)) (by first | omega | (dsimp only; omega)) (by first | omega | (dsimp only; omega)))
 | succ d ih =>
  intro x6 x8 hx a s h0 h1
  refine ChainR.step (f := fun k => _) (fun k => by rw [spec_DrawNeedlessCuts_in.l0]) ?_
  refine ChainR.ite (fun _ => ChainR.pos (by first | omega | (dsimp only; omega)) (ChainR.pos (by first | omega | (dsimp only; omega)) ?_)) (fun _ => ChainR.val (by first | omega | (dsimp only; omega)) (by first | omega | (dsimp only; omega)) (by first | omega | (dsimp only; omega)))
  obtain ⟨r, a1, s1, e1, hr0, hr1, ha, ha'⟩ := cur_pick h s (n := 3) h0 (by first | omega | (dsimp only; omega)) (by first | omega | (dsimp only; omega)) (by first | omega | (dsimp only; omega))
  exact ChainR.bindc e1 ((ih _ _ (by first | omega | (simp; omega)) s1 (by first | omega | (dsimp only; omega)) (by first | omega | (dsimp only; omega))).le (by first | omega | (dsimp only; omega)))
theorem dnc_j0 {l : List Int} (h : BytesL l) (x5 : Int) (x6 : List Int) (hx : x6.length ≤ 20) (b : Bool) {a : Int} (s : Int) (h0 : 0 ≤ a) (h1 : a ≤ 800000000000) : ChainR (fun k => spec_DrawNeedlessCuts_in.j0 k x5 x6 b l a s) (a + 30) := by
 refine ChainR.step (f := fun k => _) (fun k => by rw [spec_DrawNeedlessCuts_in.j0]) ?_
 refine ChainR.ite (fun _ => ?_) (fun _ => ChainR.val hx (by first | omega | (dsimp only; omega)) (by first | omega | (dsimp only; omega)))
 obtain ⟨r, a1, s1, e1, hr0, hr1, ha, ha'⟩ := cur_pick h s (n := 3) h0 (by first | omega | (dsimp only; omega)) (by first | omega | (dsimp only; omega)) (by first | omega | (dsimp only; omega))
 have ew : wrap64 (r + 1) = r + 1 := w64 (by first | omega | (dsimp only; omega)) (by first | omega | (dsimp only; omega))
 obtain ⟨y, hy, hyl⟩ := cfm_small (n := r + 1) (by first | omega | (dsimp only; omega)) (by first | omega | (dsimp only; omega))
 obtain ⟨m, hm, hm0, hm1⟩ := most_small (n := r + 1) (by first | omega | (dsimp only; omega)) (by first | omega | (dsimp only; omega))
 rw [← ew] at hy hm
 obtain ⟨r2, a2, s2, e2, hr20, hr21, hb, hb'⟩ := cur_pick h s1 (a := a1) (n := 4) (by first | omega | (dsimp only; omega)) (by first | omega | (dsimp only; omega)) (by first | omega | (dsimp only; omega)) (by first | omega | (dsimp only; omega))
 obtain ⟨r3, a3, s3, e3, hc, hc'⟩ := cur_one h s2 (a := a2) (n := 2) (by first | omega | (dsimp only; omega)) (by first | omega | (dsimp only; omega)) (by first | omega | (dsimp only; omega)) (by first | omega | (dsimp only; omega))
 refine ChainR.bindc e1 (ChainR.bind hy (ChainR.bindc hm (ChainR.bindc e2 (ChainR.bindc e3 (ChainR.ite (fun _ => ?_) (fun _ => ChainR.val (by first | omega | (simp; omega)) (by first | omega | (simp; omega)) (by first | omega | (simp; omega))))))))
 have em : wrap64 (m - r2) = m - r2 := w64 (by first | omega | (dsimp only; omega)) (by first | omega | (dsimp only; omega))
 simp only
 rw [em]
 by_cases q : 1 ≤ m - r2
 · obtain ⟨r4, a4, s4, e4, _, _, hd, hd'⟩ := cur_pick h s3 (a := a3) (n := m - r2) (by first | omega | (dsimp only; omega)) (by first | omega | (dsimp only; omega)) q (by first | omega | (dsimp only; omega))
   exact ChainR.bindc e4 ((dnc_l0 h _ 6 [] 0 (by simp) s4 (by first | omega | (dsimp only; omega)) (by first | omega | (dsimp only; omega))).le (by first | omega | (dsimp only; omega)))
 · have e4 : spec_l1Cur_pick.f l a3 s3 (m - r2) = some (0, a3, s3) := by unfold spec_l1Cur_pick.f; rw [if_pos (by first | omega | (dsimp only; omega))]
   exact ChainR.bindc e4 ((dnc_l0 h _ 6 [] 0 (by simp) s3 (by first | omega | (dsimp only; omega)) (by first | omega | (dsimp only; omega))).le (by first | omega | (dsimp only; omega)))
theorem drawNeedlessCuts_ev {l : List Int} (h : BytesL l) : ∃ x y, Ev (fun k => spec_DrawNeedlessCuts.f k l) (x, y) ∧ y.length ≤ 20 := by
 obtain ⟨x0, y0, t0, u0, g1, g2, g3, g4⟩ := chain_ev h 0 (a := 0) (by first | omega | (dsimp only; omega)) (by first | omega | (dsimp only; omega))
 obtain ⟨r3, a3, s3, e3, hc, hc'⟩ := cur_one h u0 (a := t0) (n := 2) (by first | omega | (dsimp only; omega)) (by first | omega | (dsimp only; omega)) (by first | omega | (dsimp only; omega)) (by first | omega | (dsimp only; omega))
 have key : ChainR (fun k => spec_DrawNeedlessCuts_in.f k l 0 0) 1000 := by
  unfold spec_DrawNeedlessCuts_in.f
  refine ChainR.bind g1 (ChainR.bindc e3 (ChainR.ite (fun _ => ?_) (fun _ => ?_)))
  · exact ChainR.bindc (x := inB x0 1 1000) (by unfold spec_chLinks.f; rw [spec_l1In.valB]; rfl) ((dnc_j0 h _ _ g2 _ s3 (by first | omega | (dsimp only; omega)) (by first | omega | (dsimp only; omega))).le (by first | omega | (dsimp only; omega)))
  · exact (dnc_j0 h _ _ g2 _ s3 (by first | omega | (dsimp only; omega)) (by first | omega | (dsimp only; omega))).le (by first | omega | (dsimp only; omega))
 obtain ⟨x, y, t, u, h1, h2, _⟩ := key
 refine ⟨x, y, ?_, h2⟩
 unfold spec_DrawNeedlessCuts.f
 exact Ev.bind h1 (Ev.now _)
theorem laws_jSame.ev_l (s t : List Int) : ∀ (p : List Int), p.length + s.length ≤ 35184372088832 → s.length = t.length → ∀ q : List Int, q.length = p.length → Ev (fun k => laws_jSame.l0 k (p ++ s) (q ++ t) ((p ++ s).length : Int) (p.length : Int)) (decide (s = t)) := by
 induction s generalizing t with
 | nil =>
  intro p hp ht q hq
  obtain rfl : t = [] := List.eq_nil_of_length_eq_zero (by simpa using ht.symm)
  refine Ev.step (f := fun _ => some true) (fun k => ?_) (Ev.val (by simp))
  rw [laws_jSame.l0, if_neg (by simp)]
 | cons x s ih =>
  intro p hp ht q hq
  obtain _ | ⟨y, t⟩ := t
  · simp at ht
  simp only [List.length_cons] at ht hp
  have e1 : rd (p ++ x :: s) (p.length : Int) = x := rd_app p x s
  have e2 : rd (q ++ y :: t) (p.length : Int) = y := by rw [← hq]; exact rd_app q y t
  by_cases e : x = y
  · subst e
    have h := ih t (p ++ [x]) (by simp <;> omega) (by omega) (q ++ [x]) (by simp [hq])
    refine Ev.step (f := fun k => laws_jSame.l0 k ((p ++ [x]) ++ s) ((q ++ [x]) ++ t) (((p ++ [x]) ++ s).length : Int) ((p ++ [x]).length : Int)) (fun k => ?_) (Ev.eq h (by simp))
    rw [laws_jSame.l0, if_pos (by simp <;> omega), if_pos (by omega), if_pos (by simp <;> omega), if_pos (by simp <;> omega), e1, e2, if_pos rfl, w64 (by omega) (by omega)]
    simp
  · refine Ev.step (f := fun _ => some false) (fun k => ?_) (Ev.val (by simp [e]))
    rw [laws_jSame.l0, if_pos (by simp <;> omega), if_pos (by omega), if_pos (by simp <;> omega), if_pos (by simp <;> omega), e1, e2, if_neg e]
theorem laws_jSame.ev (s t : List Int) (hl : s.length ≤ 35184372088832) : Ev (fun k => laws_jSame.f k s t) (decide (s = t)) := by
 unfold laws_jSame.f
 refine Ev.ite (fun h => ?_) (fun h => Ev.val ?_)
 · exact laws_jSame.ev_l s t [] (by simpa using hl) (by omega) [] rfl
 · have : s ≠ t := by rintro rfl; exact h rfl
   simp [this]
theorem laws_jSum.ev_l (s : List Int) : ∀ (p : List Int) (a : Int), p.length + s.length ≤ 35184372088832 → 0 ≤ a → (∀ x ∈ s, 0 ≤ x) → a + s.sum ≤ 9223372036854775807 → Ev (fun k => laws_jSum.l0 k a (p ++ s) ((p ++ s).length : Int) (p.length : Int)) (a + s.sum) := by
 induction s with
 | nil =>
  intro p a hp h0 _ _
  refine Ev.step (f := fun _ => some a) (fun k => ?_) (Ev.val (by simp))
  rw [laws_jSum.l0, if_neg (by simp)]
 | cons x s ih =>
  intro p a hp h0 hx hs
  simp only [List.length_cons, List.sum_cons] at hp hs
  have e1 : rd (p ++ x :: s) (p.length : Int) = x := rd_app p x s
  have hx0 := hx x (by simp)
  have hsum : 0 ≤ s.sum := by
   have : ∀ l : List Int, (∀ y ∈ l, 0 ≤ y) → 0 ≤ l.sum := fun l => by
    induction l with
    | nil => intro _; simp
    | cons y l ih => intro h; have := ih (fun z hz => h z (by simp [hz])); have := h y (by simp); simp; omega
   exact this s (fun y hy => hx y (by simp [hy]))
  have h := ih (p ++ [x]) (a + x) (by simp; omega) (by omega) (fun y hy => hx y (by simp [hy])) (by omega)
  refine Ev.step (f := fun k => laws_jSum.l0 k (a + x) ((p ++ [x]) ++ s) (((p ++ [x]) ++ s).length : Int) ((p ++ [x]).length : Int)) (fun k => ?_) (Ev.eq h (by simp; omega))
  rw [laws_jSum.l0, if_pos (by simp <;> omega), if_pos (by omega), if_pos (by simp <;> omega), e1, w64 (n := a + x) (by omega) (by omega), w64 (by omega) (by omega)]
  simp
theorem laws_jSum.ev (s : List Int) (hl : s.length ≤ 35184372088832) (h0 : ∀ x ∈ s, 0 ≤ x) (hs : s.sum ≤ 9223372036854775807) : Ev (fun k => laws_jSum.f k s) s.sum := Ev.eq (laws_jSum.ev_l s [] 0 (by simpa using hl) (by omega) h0 (by omega)) (by simp)
theorem laws_jCount.ev_l (n : Int) (s : List Int) : ∀ (p : List Int) (a : Nat), p.length + s.length ≤ 35184372088832 → a ≤ p.length → Ev (fun k => laws_jCount.l0 k n (a : Int) (p ++ s) ((p ++ s).length : Int) (p.length : Int)) ((a + s.count n : Nat) : Int) := by
 induction s with
 | nil =>
  intro p a hp h0
  refine Ev.step (f := fun _ => some (a : Int)) (fun k => ?_) (Ev.val (by simp))
  rw [laws_jCount.l0, if_neg (by simp)]
 | cons x s ih =>
  intro p a hp h0
  simp only [List.length_cons] at hp
  have e1 : rd (p ++ x :: s) (p.length : Int) = x := rd_app p x s
  by_cases e : x = n
  · subst e
    have h := ih (p ++ [x]) (a + 1) (by simp; omega) (by simp; omega)
    refine Ev.step (f := fun k => laws_jCount.l0 k x ((a + 1 : Nat) : Int) ((p ++ [x]) ++ s) (((p ++ [x]) ++ s).length : Int) ((p ++ [x]).length : Int)) (fun k => ?_) (Ev.eq h (by simp; omega))
    rw [laws_jCount.l0, if_pos (by simp <;> omega), if_pos (by omega), if_pos (by simp <;> omega), e1, if_pos rfl, w64 (n := (a : Int) + 1) (by omega) (by omega), w64 (by omega) (by omega)]
    simp
  · have h := ih (p ++ [x]) a (by simp; omega) (by simp; omega)
    refine Ev.step (f := fun k => laws_jCount.l0 k n (a : Int) ((p ++ [x]) ++ s) (((p ++ [x]) ++ s).length : Int) ((p ++ [x]).length : Int)) (fun k => ?_) (Ev.eq h (by rw [List.count_cons_of_ne (by simpa using e)]))
    rw [laws_jCount.l0, if_pos (by simp <;> omega), if_pos (by omega), if_pos (by simp <;> omega), e1, if_neg e, w64 (by omega) (by omega)]
    simp
theorem laws_jCount.ev (s : List Int) (n : Int) (hl : s.length ≤ 35184372088832) : Ev (fun k => laws_jCount.f k s n) (s.count n : Int) := Ev.eq (laws_jCount.ev_l n s [] 0 (by simpa using hl) (by omega)) (by simp)
theorem laws_jHas.ev_l (n : Int) (s : List Int) : ∀ (p : List Int), p.length + s.length ≤ 35184372088832 → Ev (fun k => laws_jHas.l0 k n (p ++ s) ((p ++ s).length : Int) (p.length : Int)) (decide (n ∈ s)) := by
 induction s with
 | nil =>
  intro p hp
  refine Ev.step (f := fun _ => some false) (fun k => ?_) (Ev.val (by simp))
  rw [laws_jHas.l0, if_neg (by simp)]
 | cons x s ih =>
  intro p hp
  simp only [List.length_cons] at hp
  have e1 : rd (p ++ x :: s) (p.length : Int) = x := rd_app p x s
  by_cases e : x = n
  · refine Ev.step (f := fun _ => some true) (fun k => ?_) (Ev.val (by simp [e]))
    rw [laws_jHas.l0, if_pos (by simp <;> omega), if_pos (by omega), if_pos (by simp <;> omega), e1, if_pos e]
  · have h := ih (p ++ [x]) (by simp; omega)
    refine Ev.step (f := fun k => laws_jHas.l0 k n ((p ++ [x]) ++ s) (((p ++ [x]) ++ s).length : Int) ((p ++ [x]).length : Int)) (fun k => ?_) (Ev.eq h (by simp [Ne.symm e]))
    rw [laws_jHas.l0, if_pos (by simp <;> omega), if_pos (by omega), if_pos (by simp <;> omega), e1, if_neg e, w64 (by omega) (by omega)]
    simp
theorem laws_jHas.ev (s : List Int) (n : Int) (hl : s.length ≤ 35184372088832) : Ev (fun k => laws_jHas.f k s n) (decide (n ∈ s)) := Ev.eq (laws_jHas.ev_l n s [] (by simpa using hl)) (by simp)
theorem laws_jRises.ev_l (s : List Int) : ∀ (p : List Int) (x : Int), p.length + s.length + 1 ≤ 35184372088832 → Ev (fun k => laws_jRises.l0 k (p ++ x :: s) ((p.length + 1 : Nat) : Int)) (risesB (x :: s)) := by
 induction s with
 | nil =>
  intro p x hp
  refine Ev.step (f := fun _ => some true) (fun k => ?_) (Ev.val rfl)
  rw [laws_jRises.l0, if_neg (by simp)]
 | cons y s ih =>
  intro p x hp
  simp only [List.length_cons] at hp
  have e1 : rd (p ++ x :: y :: s) (p.length : Int) = x := rd_app p x (y :: s)
  have e2 : rd (p ++ x :: y :: s) ((p.length + 1 : Nat) : Int) = y := by
   have := rd_app (p ++ [x]) y s
   simpa using this
  have hw : wrap64 (((p.length + 1 : Nat) : Int) - 1) = (p.length : Int) := by rw [w64 (by omega) (by omega)]; omega
  by_cases c : x ≥ y
  · refine Ev.step (f := fun _ => some false) (fun k => ?_) (Ev.val (by rw [risesB, decide_eq_false (by omega)]; rfl))
    rw [laws_jRises.l0, if_pos (by simp <;> omega), hw, if_pos (by omega), if_pos (by simp <;> omega), if_pos (by omega), e1, e2, if_pos c]
  · have h := ih (p ++ [x]) y (by simp; omega)
    refine Ev.step (f := fun k => laws_jRises.l0 k ((p ++ [x]) ++ y :: s) (((p ++ [x]).length + 1 : Nat) : Int)) (fun k => ?_) (Ev.eq h (by rw [show risesB (x :: y :: s) = (decide (x < y) && risesB (y :: s)) from rfl, decide_eq_true (by omega)]; rfl))
    rw [laws_jRises.l0, if_pos (by simp <;> omega), hw, if_pos (by omega), if_pos (by simp <;> omega), if_pos (by omega), e1, e2, if_neg c, w64 (by omega) (by omega)]
    simp [Int.add_assoc]
theorem laws_jRises.ev (s : List Int) (hl : s.length ≤ 35184372088832) : Ev (fun k => laws_jRises.f k s) (risesB s) := by
 unfold laws_jRises.f
 cases s with
 | nil =>
  refine Ev.step (f := fun _ => some true) (fun k => ?_) (Ev.val rfl)
  rw [laws_jRises.l0, if_neg (by simp)]
 | cons x s => exact laws_jRises.ev_l s [] x (by simpa using hl)
theorem big_no {l0 l1 : List Int} (h : ¬ laws_big.f l0 l1 = some true) : l0.length ≤ 1048576 ∧ l1.length ≤ 1048576 ∧ laws_big.f l0 l1 = some false := by
 unfold laws_big.f at h ⊢
 by_cases c : (l0.length : Int) > 1048576
 · rw [if_pos c] at h; exact absurd rfl h
 · rw [if_neg c] at h ⊢
   rw [w64 (by omega) (by omega)] at h ⊢
   by_cases d : (l1.length : Int) > 1048576 - (l0.length : Int)
   · rw [decide_eq_true d] at h; exact absurd rfl h
   · exact ⟨by omega, by omega, by rw [decide_eq_false d]⟩
theorem cp_less {a : Int} {l : List Int} (hc : cutsB a l = true) (i : Nat) (hi : i < l.length) : (([] : List Int) ++ l.take i) ++ l.drop (i + 1) = l.eraseIdx i := by
 rw [List.nil_append, List.eraseIdx_eq_take_drop_succ]
theorem cp_l88 {a : Int} {l : List Int} (hc : cutsB a l = true) : ∀ (d i : Nat), i + d = l.length → ∃ K, ∀ k n, K ≤ k → K ≤ n → laws_FnCutsPay.l88 k n a l (needR a l l.length 0) (l.length : Int) (i : Int) = some true := by
 intro d
 have hin := cutsB_in hc
 induction d with
 | zero =>
  intro i hi
  have hr := laws_jRises.ev (needR a l l.length 0) (by have := needR_length a l l.length 0; omega)
  obtain ⟨K, hK⟩ := hr
  replace hK : ∀ k, K ≤ k → laws_jRises.f k (needR a l l.length 0) = some (risesB (needR a l l.length 0)) := hK
  refine ⟨K + 1, fun k n hk hn => ?_⟩
  obtain ⟨m, rfl⟩ : ∃ m, n = m + 1 := ⟨n - 1, by omega⟩
  rw [laws_FnCutsPay.l88, if_neg (by simp; omega)]
  unfold laws_FnCutsPay.p105
  rw [hK k (by omega), Option.bind_some, rises_of_pairwise _ (needR_rises a l l.length 0).1]
 | succ d ih =>
  intro i hi
  obtain ⟨K, hK⟩ := ih (i + 1) (by omega)
  obtain ⟨K1, h1⟩ := impl_DoCutsPay.ev a (l.eraseIdx i) (by have := List.length_eraseIdx_le l i; omega)
  obtain ⟨K2, h2⟩ := laws_jHas.ev (needR a l l.length 0) (i : Int) (by have := needR_length a l l.length 0; omega)
  replace h1 : ∀ k, K1 ≤ k → impl_DoCutsPay.f k a (l.eraseIdx i) = some (doPayB a (l.eraseIdx i)) := h1
  replace h2 : ∀ k, K2 ≤ k → laws_jHas.f k (needR a l l.length 0) (i : Int) = some (decide ((i : Int) ∈ needR a l l.length 0)) := h2
  refine ⟨K + K1 + K2 + 1, fun k n hk hn => ?_⟩
  obtain ⟨m, rfl⟩ : ∃ m, n = m + 1 := ⟨n - 1, by omega⟩
  have ew : wrap64 ((i : Int) + 1) = ((i + 1 : Nat) : Int) := by rw [w64 (by omega) (by omega)]; omega
  have et : Int.toNat ((i : Int)) = i := by omega
  have et' : Int.toNat (((i + 1 : Nat) : Int)) = i + 1 := by omega
  rw [laws_FnCutsPay.l88, if_pos (by simp; omega), if_pos (by simp; omega)]
  rw [ew, et, et', if_pos (by simp; omega), if_pos (by simp; omega), if_pos (by simp; omega)]
  rw [cp_less hc i (by omega), h1 k (by omega), Option.bind_some, doPayB, if_pos (cutsB_erase hc i), if_pos rfl, h2 k (by omega), Option.bind_some, if_neg ?_]
  · unfold laws_FnCutsPay.p104
    rw [ew]
    exact hK k m (by omega) (by omega)
  · have h := needR_mem a l i l.length 0
    by_cases q : (runPB a (l.eraseIdx i) == a) = true
    · rw [decide_eq_true (h.2 ⟨by omega, by omega, q⟩), q]; decide
    · rw [decide_eq_false (fun z => q (h.1 z).2.2), Bool.eq_false_iff.2 q]; decide
theorem cp_p71 {l1 : List Int} (B1 : BytesL l1) (a : Int) (l l27 : List Int) (b : Bool) (hl : l.length ≤ 1000) (h : b = true → l27.length ≤ 1000 ∧ (∀ x ∈ l27, 0 ≤ x) ∧ l27.sum = a ∧ a ≤ 1000000 ∧ l27.length ≤ 2 * l.length ∧ l.length ≤ l27.count 1) : Ev (fun k => laws_FnCutsPay.p71 k l1 a l l27 b) true := by
 unfold laws_FnCutsPay.p71
 refine Ev.bind (a := false) ?_ (Ev.neg (by decide) ?_)
 · refine Ev.ite (fun hb => ?_) (fun _ => Ev.val rfl)
   obtain ⟨h1, h2, h3, h4, h5, h6⟩ := h hb
   refine Ev.bind (laws_jSum.ev l27 (by omega) h2 (by omega)) (Ev.bind (a := false) (Ev.neg (by simp [h3]) (Ev.val ?_)) (Ev.bind (a := false) (Ev.neg (by decide) (Ev.bind (laws_jCount.ev l27 1 (by omega)) (Ev.val ?_))) (Ev.val rfl)))
   · rw [w64 (by omega) (by omega)]; exact decide_eq_false (by omega)
   · exact decide_eq_false (by omega)
 · obtain ⟨n, list, hD, hlist⟩ := drawNeedlessCuts_ev B1
   refine Ev.bind hD (Ev.bind (impl_NeedlessCuts.ev n list (by omega)) (Ev.bind (spec_NeedlessCuts.ev n list (by omega)) (Ev.neg (by simp) ?_)))
   dsimp only
   have hn : (needCutsB n list).1.length ≤ 1000 := by
    unfold needCutsB; split
    · have := needR_length n list list.length 0; simp only; omega
    · simp
   refine Ev.bind (laws_jSame.ev _ _ (by omega)) (Ev.neg (by simp) ?_)
   unfold laws_FnCutsPay.p86
   refine Ev.ite (fun hq => ?_) (fun _ => Ev.val rfl)
   have hc : cutsB n list = true ∧ (runPB n list == n) = true := by
    unfold needCutsB at hq; split at hq
    · assumption
    · cases hq
   have e : (needCutsB n list).1 = needR n list list.length 0 := by rw [needCutsB, if_pos hc]
   rw [e]
   obtain ⟨K, hK⟩ := cp_l88 hc.1 list.length 0 (by omega)
   exact ⟨K, fun k hk => hK k k hk hk⟩
theorem FnCutsPay : laws_FnCutsPay.Pure := by
 intro l0 l1 _ _ w0 _ _ w1
 refine Ev.rounds (g := fun k => laws_FnCutsPay.f k l0 l1) ?_
 unfold laws_FnCutsPay.f laws_FnCutsPay.p1
 by_cases hb : laws_big.f l0 l1 = some true
 · exact Ev.bindc hb (Ev.pos rfl (Ev.val rfl))
 obtain ⟨hl0, hl1, hb⟩ := big_no hb
 refine Ev.bindc hb (Ev.neg (by decide) ?_)
 have B0 := bytes_of hl0 w0
 have B1 := bytes_of hl1 w1
 obtain ⟨a, l, hD, hl⟩ := drawAreCuts_ev B0
 have hD' : Ev (fun k => spec_DrawDoCutsPay.f k l0) (a, l) := by unfold spec_DrawDoCutsPay.f; exact Ev.bind hD (Ev.now _)
 refine Ev.bind hD' ?_
 dsimp only
 refine Ev.bind (impl_DoCutsPay.ev a l (by omega)) (Ev.bind (spec_DoCutsPay.ev a l (by omega)) (Ev.bind (impl_PartsOfCuts.ev a l (by omega)) (Ev.bind (spec_PartsOfCuts.ev a l (by omega)) (Ev.bind (impl_PiecesOfCuts.ev a l (by omega)) ?_))))
 unfold laws_FnCutsPay.p10
 refine Ev.bind (spec_PiecesOfCuts.ev a l (by omega)) (Ev.bind (impl_RunOfCuts.ev a l (by omega)) (Ev.bind (spec_RunOfCuts.ev a l (by omega)) (Ev.bind (impl_MirrorCuts.ev a l (by omega)) (Ev.bind (spec_MirrorCuts.ev a l (by omega)) (Ev.bind (impl_RingPieces.ev a l (by omega)) (Ev.bind (spec_RingPieces.ev a l (by omega)) ?_))))))
 unfold laws_FnCutsPay.p18
 have hparts : (partsOfB a l).1.length ≤ 1000000 := by
  unfold partsOfB; split
  · have := partsL_length a l 0; simp only; omega
  · simp
 have hpieces : (piecesOfB a l).1.length ≤ 1000000 := by have := piecesOfB_length a l; omega
 have hmir : (mirB a l).1.length ≤ 1000000 := by
  unfold mirB; split
  · simp [mirL]; omega
  · simp
 have hring : (ringB a l).1.length ≤ 1000000 := by have := ringB_length a l; omega
 have hs : ∀ (x : List Int), x.length ≤ 1000000 → Ev (fun k => laws_jSame.f k x x) true := fun x hx => Ev.eq (laws_jSame.ev x x (by omega)) (by simp)
 have hA := impl_AreCuts.ev a l (by omega)
 have hA' := spec_chCuts.ev a l (by omega)
 have hA2 : Ev (fun k => spec_AreCuts.f k a l) (cutsB a l) := by unfold spec_AreCuts.f; exact Ev.bind hA' (Ev.val rfl)
 have e1 : (doPayB a l).2 = cutsB a l := by unfold doPayB; cases cutsB a l <;> rfl
 have e2 : (partsOfB a l).2 = cutsB a l := by unfold partsOfB; cases cutsB a l <;> rfl
 have e3 : (piecesOfB a l).2 = cutsB a l := by unfold piecesOfB; cases cutsB a l <;> rfl
 have e4 : (runOfB a l).2 = cutsB a l := by unfold runOfB; cases cutsB a l <;> rfl
 have e5 : (mirB a l).2 = cutsB a l := by unfold mirB; cases cutsB a l <;> rfl
 refine Ev.neg (by simp) (Ev.neg (by simp) (Ev.neg (by simp) (Ev.bind (hs _ hparts) (Ev.neg (by simp) (Ev.neg (by simp) (Ev.bind (hs _ hpieces) (Ev.neg (by simp) (Ev.neg (by simp) (Ev.neg (by simp) (Ev.neg (by simp) (Ev.bind (hs _ hmir) (Ev.neg (by simp) (Ev.neg (by simp) (Ev.bind (hs _ hring) (Ev.neg (by simp) ?_)))))))))))))))
 refine Ev.bind hA (Ev.neg (by simp [e1]) (Ev.bind hA (Ev.bind hA2 (Ev.neg (by simp) (Ev.neg (by simp [e1, e2]) (Ev.neg (by simp [e1, e3]) (Ev.neg (by simp [e1, e4]) (Ev.neg (by simp [e1, e5]) ?_))))))))
 by_cases c : cutsB a l = true
 · have hc := cutsB_in c
   have f1 : doPayB a l = (runPB a l == a, true) := by rw [doPayB, if_pos c]
   have f2 : partsOfB a l = (partsL a l 0, true) := by rw [partsOfB, if_pos c]
   have f3 : piecesOfB a l = (piecesB a l, true) := by rw [piecesOfB, if_pos c]
   have f4 : runOfB a l = (runPB a l, true) := by rw [runOfB, if_pos c]
   have f5 : mirB a l = (mirL a l, true) := by rw [mirB, if_pos c]
   have f6 : (ringB a l).2 = decide (0 < (l.length : Int)) := by
    unfold ringB
    by_cases e : l = []
    · subst e; rw [if_neg (fun h => h.2 rfl)]; rfl
    · rw [if_pos ⟨c, e⟩]; symm; exact decide_eq_true (by have := List.length_pos_iff.2 e; omega)
   rw [f1, f2, f3, f4, f5]
   refine Ev.bind (a := decide (0 < (l.length : Int))) (Ev.pos rfl (Ev.val rfl)) (Ev.neg (by simp [f6]) (Ev.pos rfl ?_))
   dsimp only
   have hm := mirL_cuts c
   have hml : (mirL a l).length ≤ 1000 := by simp [mirL]; omega
   have g1 : mirB a (mirL a l) = (l, true) := by rw [mirB, if_pos hm, mirL_mirL]
   have g2 : doPayB a (mirL a l) = (runPB a l == a, true) := by
    rw [doPayB, if_pos hm]
    unfold runPB; rw [mirL_pieces c]
   refine Ev.bind (Ev.eq (impl_MirrorCuts.ev a (mirL a l) (by omega)) g1) (Ev.bind (Ev.eq (impl_DoCutsPay.ev a (mirL a l) (by omega)) g2) ?_)
   have p0 : ∀ x ∈ partsL a l 0, 0 ≤ x := fun x hx => by have := partsL_ge a l 0 x hx; omega
   have pl := partsL_length a l 0
   have q0 := piecesB_in a hc.2.1 l (cutsB_in' c)
   have ql := piecesB_length a l hc.2.2.1
   have h1 := laws_jSum.ev (partsL a l 0) (by omega) p0 (by rw [cuts_sum c]; omega)
   have h2 := laws_jSum.ev (piecesB a l) (by omega) (fun x hx => by have := (q0 x hx).1; omega) (by rw [pieces_sum c]; omega)
   rw [cuts_sum c] at h1
   rw [pieces_sum c] at h2
   have hpl : (piecesB a l).length = (partsL a l 0).length := sortL_length _
   refine Ev.bind h1 (Ev.neg (by simp) (Ev.bind h2 (Ev.neg (by simp) (Ev.neg (by simp [hpl]) (Ev.neg ?_ ?_)))))
   · rw [w64 (n := 2 * (l.length : Int)) (by omega) (by omega), w64 (by omega) (by omega)]
     simp; omega
   refine Ev.bind (Ev.eq (impl_ArePieces.ev _ (by omega)) (pieces_good c)) (Ev.neg (by decide) (Ev.neg (by simp) (Ev.pos rfl ?_)))
   dsimp only
   refine Ev.bind (hs l (by omega)) (Ev.neg (by decide) (Ev.pos rfl (Ev.neg (by simp) ?_)))
   have h3 : Ev (fun k => impl_RunOf.f k (piecesB a l)) (runPB a l, true) := by
    unfold impl_RunOf.f
    exact Ev.bind (Ev.eq (impl_ArePieces.ev _ (by omega)) (pieces_good c)) (Ev.pos rfl (Ev.bind (impl_run.pieces c) (Ev.val rfl)))
   refine Ev.bind h3 (Ev.pos rfl (Ev.neg (by simp) ?_))
   have hend : Ev (fun k => laws_FnCutsPay.p71 k l1 a l (ringB a l).1 (ringB a l).2) true := by
    refine cp_p71 B1 a l _ _ (by omega) (fun hr => ?_)
    have hne : l ≠ [] := by
     intro e; subst e; rw [f6] at hr; simp at hr
    have ht := turned_cuts c
    have e : (ringB a l).1 = piecesB a (turnedB l) := by rw [ringB, if_pos ⟨c, hne⟩]
    rw [e]
    have q1 := piecesB_in a hc.2.1 (turnedB l) (cutsB_in' ht)
    have r1 := turned_length (a := a) hne
    have r2 := pieces_count a (turnedB l)
    have r3 : (turnedB l).length = l.length := by simp [turnedB]
    exact ⟨by omega, fun x hx => by have := (q1 x hx).1; omega, pieces_sum ht, by omega, r1, by omega⟩
   refine Ev.ite (fun hp => ?_) (fun _ => hend)
   have hrun : runPB a l = a := by simpa using hp
   have hrb := run_bound c
   rw [hrun] at hrb
   obtain ⟨r, hr, he⟩ := fewest_to a hc.1 hc.2.1 l.length hc.2.2.1 hrb
   exact Ev.bind he (Ev.pos rfl (Ev.neg (by simp; omega) hend))
 · rw [Bool.not_eq_true] at c
   have f1 : (doPayB a l).2 = false := by rw [e1, c]
   have f6 : ringB a l = ([], false) := by rw [ringB, if_neg (fun h => by rw [c] at h; exact absurd h.1 (by decide))]
   rw [f1, f6]
   exact Ev.bind (a := false) (Ev.neg (by decide) (Ev.val rfl)) (Ev.neg (by decide) (Ev.neg (by decide) (cp_p71 B1 a l [] false (by omega) (fun h => by cases h))))
end Go.Proofs.Ythklbgllgeigdaa.Pure
