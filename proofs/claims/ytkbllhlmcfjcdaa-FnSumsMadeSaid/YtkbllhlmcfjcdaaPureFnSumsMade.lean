/- For all arguments within the row's reach the law FnSumsMade answers true.
No further conditions. -/
import Derived.Test.YtkbllhlmcfjcdaaPFnSumsMadex0
import Derived.Test.YtkbllhlmcfjcdaaPFnSumsMadex1
import Derived.Test.YtkbllhlmcfjcdaaPFnSumsMadex10
import Derived.Test.YtkbllhlmcfjcdaaPFnSumsMadex11
import Derived.Test.YtkbllhlmcfjcdaaPFnSumsMadex12
import Derived.Test.YtkbllhlmcfjcdaaPFnSumsMadex13
import Derived.Test.YtkbllhlmcfjcdaaPFnSumsMadex14
import Derived.Test.YtkbllhlmcfjcdaaPFnSumsMadex2
import Derived.Test.YtkbllhlmcfjcdaaPFnSumsMadex3
import Derived.Test.YtkbllhlmcfjcdaaPFnSumsMadex4
import Derived.Test.YtkbllhlmcfjcdaaPFnSumsMadex5
import Derived.Test.YtkbllhlmcfjcdaaPFnSumsMadex6
import Derived.Test.YtkbllhlmcfjcdaaPFnSumsMadex7
import Derived.Test.YtkbllhlmcfjcdaaPFnSumsMadex8
import Derived.Test.YtkbllhlmcfjcdaaPFnSumsMadex9
set_option linter.unusedVariables false
set_option linter.unusedSimpArgs false
namespace Go.Proofs.Ytkbllhlmcfjcdaa.Pure
open Go.RowKit Go.Proofs.Ytkbllhlmcfjcdaa.PFnSumsMade Go.Proofs.YtkbllhlmcfjcdaaW.PrintWords Go.Proofs.YtkbllhlmcfjcdaaW.PrintLast Go.Proofs.YtkbllhlmcfjcdaaW.PrintMore
theorem Ev.pos {α : Type} {c : Prop} [Decidable c] {g f : Nat → Option α} {r : α} (hc : c) (h : Ev g r) : Ev (fun k => if c then g k else f k) r := by
 obtain ⟨K, h⟩ := h
 exact ⟨K, fun k hk => by show (if c then g k else f k) = _; rw [if_pos hc]; exact h k hk⟩
theorem Ev.neg {α : Type} {c : Prop} [Decidable c] {g f : Nat → Option α} {r : α} (hc : ¬ c) (h : Ev f r) : Ev (fun k => if c then g k else f k) r := by
 obtain ⟨K, h⟩ := h
 exact ⟨K, fun k hk => by show (if c then g k else f k) = _; rw [if_neg hc]; exact h k hk⟩
theorem Ev.val {α : Type} {a r : α} (h : a = r) : Ev (fun _ => some a) r := ⟨0, fun _ _ => by rw [h]⟩
theorem Ev.bindc {α β : Type} {a : Option α} {f : Nat → α → Option β} {x : α} {r : β} (h : a = some x) (k : Ev (fun n => f n x) r) : Ev (fun n => a.bind (f n)) r := by
 obtain ⟨K, k⟩ := k
 exact ⟨K, fun n hn => by show a.bind (f n) = _; rw [h]; exact k n hn⟩
theorem Ev.eq {α : Type} {g : Nat → Option α} {r r' : α} (h : Ev g r) (e : r = r') : Ev g r' := e ▸ h
def inB (a b c : Int) : Bool := decide (b ≤ a) && decide (a ≤ c)
theorem Ev.ite {α : Type} {c : Prop} [Decidable c] {g f : Nat → Option α} {r : α} (h : c → Ev g r) (h' : ¬ c → Ev f r) : Ev (fun k => if c then g k else f k) r := by
 by_cases hc : c
 · exact Ev.pos hc (h hc)
 exact Ev.neg hc (h' hc)
theorem rd_eq (l : List Int) (i : Nat) (h : i < l.length) : rd l (i : Int) = l[i] := by simp [rd, List.getD_eq_getElem?_getD, List.getElem?_eq_getElem h]
theorem rd_app (p : List Int) (x : Int) (s : List Int) : rd (p ++ x :: s) (p.length : Int) = x := by simp [rd, List.getD_eq_getElem?_getD]
theorem w64 {n : Int} (h0 : -9223372036854775808 ≤ n) (h1 : n ≤ 9223372036854775807) : wrap64 n = n := by unfold wrap64; omega
theorem spec_l1In.val (a b c : Int) : spec_l1In.f a b c = some (decide (b ≤ a) && decide (a ≤ c)) := by
 unfold spec_l1In.f
 by_cases h : a ≥ b
 · rw [if_pos h]; simp [show b ≤ a from h]
 rw [if_neg h]; simp [show ¬ b ≤ a from h]
theorem spec_l1In.valB (a b c : Int) : spec_l1In.f a b c = some (inB a b c) := spec_l1In.val a b c
theorem impl_within.val (a b c : Int) : impl_within.f a b c = some (decide (b ≤ a) && decide (a ≤ c)) := by
 unfold impl_within.f
 by_cases h : b ≤ a
 · rw [if_pos h]; simp [h]
 rw [if_neg h]; simp [h]
theorem impl_within.valB (a b c : Int) : impl_within.f a b c = some (inB a b c) := impl_within.val a b c
theorem spec_l1All.ev_l (a b : Int) (s : List Int) : ∀ (p : List Int), p.length + s.length ≤ 9223372036854775807 → Ev (fun k => spec_l1All.l0 k a b (p ++ s) ((p ++ s).length : Int) (p.length : Int)) (s.all fun x => decide (a ≤ x) && decide (x ≤ b)) := by
 induction s with
 | nil =>
  intro p hp
  refine Ev.step (f := fun _ => some true) (fun k => ?_) (Ev.val (by simp))
  rw [spec_l1All.l0, if_neg (by simp)]
 | cons x s ih =>
  intro p hp
  simp only [List.length_cons] at hp
  have h := ih (p ++ [x]) (by simp <;> omega)
  by_cases c : (decide (a ≤ x) && decide (x ≤ b)) = true
  · refine Ev.step (f := fun k => spec_l1All.l0 k a b ((p ++ [x]) ++ s) (((p ++ [x]) ++ s).length : Int) ((p ++ [x]).length : Int)) (fun k => ?_) (Ev.eq h (by simp only [List.all_cons]; rw [c]; rfl))
    rw [spec_l1All.l0, if_pos (by simp <;> omega), if_pos (by omega), if_pos (by simp <;> omega), rd_app, spec_l1In.val, Option.bind_some, if_pos c, w64 (by omega) (by omega)]
    simp
  refine Ev.step (f := fun _ => some false) (fun k => ?_) (Ev.val (by simp only [List.all_cons]; rw [Bool.not_eq_true] at c; rw [c]; rfl))
  rw [spec_l1All.l0, if_pos (by simp <;> omega), if_pos (by omega), if_pos (by simp <;> omega), rd_app, spec_l1In.val, Option.bind_some, if_neg c]
theorem spec_l1All.ev (l : List Int) (a b : Int) (hl : l.length ≤ 9223372036854775807) : Ev (fun k => spec_l1All.f k l a b) (l.all fun x => decide (a ≤ x) && decide (x ≤ b)) :=
 spec_l1All.ev_l a b l [] (by simpa using hl)
/-- No element is less than the one before. -/
def sortedB : List Int → Bool
 | [] => true
 | [_] => true
 | x :: y :: s => decide (x ≤ y) && sortedB (y :: s)
theorem sortedB_iff (l : List Int) : sortedB l = true ↔ ∀ i : Nat, ∀ h : i + 1 < l.length, l[i] ≤ l[i + 1] := by
 induction l with
 | nil => simp [sortedB]
 | cons x s ih =>
  cases s with
  | nil => simp [sortedB]
  | cons y s =>
   simp only [sortedB, Bool.and_eq_true, decide_eq_true_eq, ih]
   constructor
   · rintro ⟨h1, h2⟩ i hi
     cases i with
     | zero => exact h1
     | succ i => exact h2 i (by simpa using hi)
   intro h
   exact ⟨h 0 (by simp), fun i hi => h (i + 1) (by simpa using hi)⟩
def piGoodB (l : List Int) : Bool := decide (l.length ≤ 20) && (l.all fun x => decide (1 ≤ x) && decide (x ≤ 10000)) && sortedB l
theorem spec_piGood.ev_l (s : List Int) : ∀ (p : List Int) (x : Int), p.length + s.length + 1 ≤ 9223372036854775806 → Ev (fun k => spec_piGood.l0 k (p ++ x :: s) ((p.length + 1 : Nat) : Int)) (sortedB (x :: s)) := by
 induction s with
 | nil =>
  intro p x hp
  refine Ev.step (f := fun _ => some true) (fun k => ?_) (Ev.val (by simp [sortedB]))
  rw [spec_piGood.l0, if_neg (by simp)]
 | cons y s ih =>
  intro p x hp
  simp only [List.length_cons] at hp
  have e1 : rd (p ++ x :: y :: s) (p.length : Int) = x := rd_app p x _
  have e2 : rd (p ++ x :: y :: s) ((p.length + 1 : Nat) : Int) = y := by
   have := rd_app (p ++ [x]) y s
   simpa using this
  have hw : wrap64 (((p.length + 1 : Nat) : Int) - 1) = (p.length : Int) := by rw [w64 (by omega) (by omega)]; omega
  by_cases c : x ≤ y
  · have h := ih (p ++ [x]) y (by simp <;> omega)
    refine Ev.step (f := fun k => spec_piGood.l0 k ((p ++ [x]) ++ y :: s) (((p ++ [x]).length + 1 : Nat) : Int)) (fun k => ?_) (Ev.eq h (by simp [sortedB, c]))
    rw [spec_piGood.l0, if_pos (by simp <;> omega), hw, if_pos (by omega), if_pos (by simp <;> omega), if_pos (by omega), e1, e2, if_neg (by omega), w64 (by omega) (by omega)]
    simp
  refine Ev.step (f := fun _ => some false) (fun k => ?_) (Ev.val (by simp [sortedB, c]))
  rw [spec_piGood.l0, if_pos (by simp <;> omega), hw, if_pos (by omega), if_pos (by simp <;> omega), if_pos (by omega), e1, e2, if_pos (by omega)]
theorem spec_piGood.ev (l : List Int) (hl : l.length ≤ 9223372036854775806) : Ev (fun k => spec_piGood.f k l) (piGoodB l) := by
 unfold spec_piGood.f
 refine Ev.ite (fun h => ?_) (fun h => ?_)
 · refine Ev.step (f := fun _ => some false) (fun k => ?_) (Ev.val ?_)
   · rw [spec_piGood.j0, if_pos rfl]
   unfold piGoodB; rw [decide_eq_false (by omega)]; rfl
 refine Ev.bind (spec_l1All.ev l 1 10000 (by omega)) ?_
 by_cases c : (l.all fun x => decide (1 ≤ x) && decide (x ≤ 10000)) = true
 · refine Ev.step (f := fun k => spec_piGood.l0 k l 1) (fun k => ?_) ?_
   · rw [spec_piGood.j0, c, if_neg (by decide)]
   have e : piGoodB l = sortedB l := by unfold piGoodB; rw [c, decide_eq_true (by omega)]; rfl
   rw [e]
   cases l with
   | nil =>
    refine Ev.step (f := fun _ => some true) (fun k => ?_) (Ev.val (by simp [sortedB]))
    rw [spec_piGood.l0, if_neg (by simp)]
   | cons x s => exact spec_piGood.ev_l s [] x (by simp at hl ⊢; omega)
 rw [Bool.not_eq_true] at c
 refine Ev.step (f := fun _ => some false) (fun k => ?_) (Ev.val ?_)
 · rw [spec_piGood.j0, c, if_pos (by decide)]
 unfold piGoodB; rw [c]; simp
theorem impl_areWithin.val (l : List Int) (a b : Int) : impl_areWithin.f l a b = some (l.all fun x => decide (a ≤ x) && decide (x ≤ b)) := rfl
theorem cmp_Less_int.val (a b : Int) : cmp_Less_int.f a b = some (decide (a < b)) := by simp [cmp_Less_int.f, cmp_isNaN_int.f]
theorem slices_IsSorted_int_int.ev_l (l : List Int) (hl : l.length ≤ 9223372036854775806) (i : Nat) : i < l.length → Ev (fun k => slices_IsSorted_int_int.l0 k l (i : Int)) (sortedB (l.take (i + 1))) := by
 induction i with
 | zero =>
  intro hi
  refine Ev.step (f := fun _ => some true) (fun k => ?_) (Ev.val ?_)
  · rw [slices_IsSorted_int_int.l0, if_neg (by omega)]
  cases l with
  | nil => rfl
  | cons x s => simp [sortedB]
 | succ i ih =>
  intro hi
  have h := ih (by omega)
  have hw : wrap64 (((i + 1 : Nat) : Int) - 1) = (i : Int) := by rw [w64 (by omega) (by omega)]; omega
  have key : sortedB (l.take (i + 1 + 1)) = (decide (l[i] ≤ l[i + 1]) && sortedB (l.take (i + 1))) := by
   rw [Bool.eq_iff_iff, Bool.and_eq_true, decide_eq_true_eq, sortedB_iff, sortedB_iff]
   constructor
   · intro h
     refine ⟨by have := h i (by simp <;> omega); simpa using this, fun j hj => ?_⟩
     have hj' : j + 1 < i + 1 := by simp at hj; omega
     have := h j (by simp <;> omega)
     simpa using this
   rintro ⟨h1, h2⟩ j hj
   have hj' : j + 1 < i + 1 + 1 := by simp at hj; omega
   by_cases e : j = i
   · subst e; simpa using h1
   have := h2 j (by simp <;> omega)
   simpa using this
  by_cases c : l[i + 1] < l[i]
  · refine Ev.step (f := fun _ => some false) (fun k => ?_) (Ev.val (by rw [key, decide_eq_false (by omega)]; rfl))
    rw [slices_IsSorted_int_int.l0, if_pos (by omega), if_pos (by omega), if_pos (by omega), hw, if_pos (by omega), if_pos (by omega), rd_eq l _ hi, rd_eq l i (by omega), cmp_Less_int.val, Option.bind_some, if_pos (by simpa using c)]
  refine Ev.step (f := fun k => slices_IsSorted_int_int.l0 k l (i : Int)) (fun k => ?_) (Ev.eq h (by rw [key, decide_eq_true (by omega)]; rfl))
  rw [slices_IsSorted_int_int.l0, if_pos (by omega), if_pos (by omega), if_pos (by omega), hw, if_pos (by omega), if_pos (by omega), rd_eq l _ hi, rd_eq l i (by omega), cmp_Less_int.val, Option.bind_some, if_neg (by simpa using c)]
theorem slices_IsSorted_int_int.ev (l : List Int) (hl : l.length ≤ 9223372036854775806) : Ev (fun k => slices_IsSorted_int_int.f k l) (sortedB l) := by
 unfold slices_IsSorted_int_int.f
 cases l with
 | nil =>
  refine Ev.step (f := fun _ => some true) (fun k => ?_) (Ev.val (by simp [sortedB]))
  rw [slices_IsSorted_int_int.l0, if_neg (by rw [w64 (by simp) (by simp)]; simp)]
 | cons x s =>
  have h := slices_IsSorted_int_int.ev_l (x :: s) hl s.length (by simp)
  have hw : wrap64 ((((x :: s).length : Nat) : Int) - 1) = (s.length : Int) := by
   simp only [List.length_cons] at hl ⊢
   rw [w64 (by omega) (by omega)]; omega
  rw [hw]
  refine Ev.eq h ?_
  rw [List.take_of_length_le (by simp)]
/-- Each element is greater than the one before. -/
def risesB : List Int → Bool
 | [] => true
 | [_] => true
 | x :: y :: s => decide (x < y) && risesB (y :: s)
theorem rises_of_pairwise : ∀ l : List Int, l.Pairwise (fun x y => x < y) → risesB l = true
 | [], _ => rfl
 | [_], _ => rfl
 | x :: y :: s, h => by
  rw [List.pairwise_cons] at h
  rw [risesB, rises_of_pairwise (y :: s) h.2, decide_eq_true (h.1 y (by simp))]; rfl
theorem impl_ArePieces.ev (l : List Int) (hl : l.length ≤ 9223372036854775806) : Ev (fun k => impl_ArePieces.f k l) (piGoodB l) := by
 unfold impl_ArePieces.f
 refine Ev.ite (fun h => ?_) (fun h => ?_)
 · refine Ev.bindc (impl_areWithin.val l 1 10000) ?_
   refine Ev.ite (fun c => ?_) (fun c => Ev.val ?_)
   · refine Ev.bind (slices_IsSorted_int_int.ev l hl) (Ev.val ?_)
     unfold piGoodB
     rw [decide_eq_true (by omega), c]; simp
   unfold piGoodB
   rw [Bool.not_eq_true] at c
   rw [c]; simp
 refine Ev.val ?_
 unfold piGoodB
 rw [decide_eq_false (by omega)]; rfl
/-- A table of N values. -/
def tab (N : Nat) (f : Int → Int) : List Int := (List.range N).map fun (i : Nat) => f (i : Int)
theorem tab_length (N : Nat) (f : Int → Int) : (tab N f).length = N := by simp [tab]
theorem rd_tab (N : Nat) (f : Int → Int) (i : Int) (h0 : 0 ≤ i) (h1 : i < N) : rd (tab N f) i = f i := by
 obtain ⟨n, rfl⟩ := Int.eq_ofNat_of_zero_le h0
 rw [rd_eq _ _ (by rw [tab_length]; omega)]
 simp [tab]
theorem tab_congr (N : Nat) (f g : Int → Int) (h : ∀ i : Int, 0 ≤ i → i < N → f i = g i) : tab N f = tab N g := by
 unfold tab
 apply List.map_congr_left
 intro i hi
 exact h i (by omega) (by have := List.mem_range.1 hi; omega)
theorem tab_set (N : Nat) (f : Int → Int) (i : Int) (v : Int) (h0 : 0 ≤ i) : (tab N f).set i.toNat v = tab N (fun j => if j = i then v else f j) := by
 obtain ⟨n, rfl⟩ := Int.eq_ofNat_of_zero_le h0
 apply List.ext_getElem?
 intro j
 unfold tab
 by_cases hj : j < N
 · by_cases e : n = j
   · subst e
     simp [hj]
   rw [List.getElem?_set_ne (by simpa using e)]
   simp [hj]
   omega
 rw [List.getElem?_eq_none (by simp; omega), List.getElem?_eq_none (by simp; omega)]
/-- How many ways there are to make s of some of the pieces. -/
def cnt : List Int → Int → Int
 | [], s => if s = 0 then 1 else 0
 | x :: t, s => cnt t s + cnt t (s - x)
theorem cnt_snoc (l : List Int) (n s : Int) : cnt (l ++ [n]) s = cnt l s + cnt l (s - n) := by
 induction l generalizing s with
 | nil => simp [cnt]
 | cons x t ih =>
  simp only [List.cons_append, cnt, ih]
  rw [show s - x - n = s - n - x by omega]; omega
theorem cnt_nonneg (l : List Int) (s : Int) : 0 ≤ cnt l s := by
 induction l generalizing s with
 | nil => unfold cnt; split <;> omega
 | cons x t ih => have h1 := ih s; have h2 := ih (s - x); unfold cnt; omega
theorem cnt_le (l : List Int) (s : Int) : cnt l s ≤ 2 ^ l.length := by
 induction l generalizing s with
 | nil => unfold cnt; split <;> simp
 | cons x t ih =>
  have h1 := ih s; have h2 := ih (s - x)
  unfold cnt
  rw [List.length_cons, Int.pow_succ]; omega
theorem cnt_neg (l : List Int) (hl : ∀ x ∈ l, 0 ≤ x) (s : Int) (h : s < 0) : cnt l s = 0 := by
 induction l generalizing s with
 | nil => unfold cnt; rw [if_neg (by omega)]
 | cons x t ih =>
  have hx := hl x (by simp)
  unfold cnt
  rw [ih (fun y hy => hl y (by simp [hy])) s h, ih (fun y hy => hl y (by simp [hy])) (s - x) (by omega)]; rfl
theorem sum_nonneg (l : List Int) (hl : ∀ x ∈ l, 0 ≤ x) : 0 ≤ l.sum := by
 induction l with
 | nil => simp
 | cons x t ih =>
  have hx := hl x (by simp)
  have := ih (fun y hy => hl y (by simp [hy]))
  rw [List.sum_cons]; omega
theorem cnt_above (l : List Int) (hl : ∀ x ∈ l, 0 ≤ x) (s : Int) (h : l.sum < s) : cnt l s = 0 := by
 induction l generalizing s with
 | nil => unfold cnt; rw [if_neg (by simp at h; omega)]
 | cons x t ih =>
  have hx := hl x (by simp)
  rw [List.sum_cons] at h
  unfold cnt
  rw [ih (fun y hy => hl y (by simp [hy])) s (by omega), ih (fun y hy => hl y (by simp [hy])) (s - x) (by omega)]; rfl
theorem pow_le_20 {n : Nat} (h : n ≤ 20) : (2 : Int) ^ n ≤ 1048576 := by
 have : (2 : Nat) ^ n ≤ 2 ^ 20 := Nat.pow_le_pow_right (by omega) h
 have e : ((2 : Int) ^ n) = ((2 ^ n : Nat) : Int) := by simp
 rw [e]; omega
theorem sum_le (l : List Int) (B : Int) (hl : ∀ x ∈ l, x ≤ B) : l.sum ≤ l.length * B := by
 induction l with
 | nil => simp
 | cons x t ih =>
  have hx := hl x (by simp)
  have := ih (fun y hy => hl y (by simp [hy]))
  rw [List.sum_cons, List.length_cons]
  have e : ((t.length + 1 : Nat) : Int) * B = t.length * B + B := by
   rw [show ((t.length + 1 : Nat) : Int) = (t.length : Int) + 1 by omega, Int.add_mul]; omega
  omega
/-- Up to where all sums can be made of pieces in order. -/
def runL : List Int → Int → Int
 | [], a => a
 | x :: t, a => if x > a + 1 then a else runL t (a + x)
theorem impl_total.ev_l (s : List Int) : ∀ (p : List Int) (a : Int), p.length + s.length ≤ 1000000000 → 0 ≤ a → (∀ x ∈ s, 0 ≤ x) → a + s.sum ≤ 1000000000 → Ev (fun k => impl_total.l0 k a (p ++ s) ((p ++ s).length : Int) (p.length : Int)) (a + s.sum) := by
 induction s with
 | nil =>
  intro p a hp h0 hs hsum
  refine Ev.step (f := fun _ => some a) (fun k => ?_) (Ev.val (by simp))
  rw [impl_total.l0, if_neg (by simp)]
 | cons x s ih =>
  intro p a hp h0 hs hsum
  simp only [List.length_cons] at hp
  rw [List.sum_cons] at hsum
  have hx := hs x (by simp)
  have hs' : ∀ y ∈ s, 0 ≤ y := fun y hy => hs y (by simp [hy])
  have hsn := sum_nonneg s hs'
  have h := ih (p ++ [x]) (a + x) (by simp <;> omega) (by omega) hs' (by omega)
  refine Ev.step (f := fun k => impl_total.l0 k (a + x) ((p ++ [x]) ++ s) (((p ++ [x]) ++ s).length : Int) ((p ++ [x]).length : Int)) (fun k => ?_) (Ev.eq h (by rw [List.sum_cons]; omega))
  rw [impl_total.l0, if_pos (by simp <;> omega), if_pos (by omega), if_pos (by simp <;> omega), rd_app, w64 (n := a + x) (by omega) (by omega), w64 (by omega) (by omega)]
  simp
theorem impl_total.ev (l : List Int) (hl : l.length ≤ 1000000000) (h0 : ∀ x ∈ l, 0 ≤ x) (hs : l.sum ≤ 1000000000) : Ev (fun k => impl_total.f k l) l.sum := by
 have h := impl_total.ev_l l [] 0 (by simpa using hl) (by omega) h0 (by omega)
 exact Ev.eq h (by omega)
theorem spec_piSum.ev_l (s : List Int) : ∀ (p : List Int) (a : Int), p.length + s.length ≤ 1000000000 → 0 ≤ a → (∀ x ∈ s, 0 ≤ x) → a + s.sum ≤ 1000000000 → Ev (fun k => spec_piSum.l0 k a (p ++ s) ((p ++ s).length : Int) (p.length : Int)) (a + s.sum) := by
 induction s with
 | nil =>
  intro p a hp h0 hs hsum
  refine Ev.step (f := fun _ => some a) (fun k => ?_) (Ev.val (by simp))
  rw [spec_piSum.l0, if_neg (by simp)]
 | cons x s ih =>
  intro p a hp h0 hs hsum
  simp only [List.length_cons] at hp
  rw [List.sum_cons] at hsum
  have hx := hs x (by simp)
  have hs' : ∀ y ∈ s, 0 ≤ y := fun y hy => hs y (by simp [hy])
  have hsn := sum_nonneg s hs'
  have h := ih (p ++ [x]) (a + x) (by simp <;> omega) (by omega) hs' (by omega)
  refine Ev.step (f := fun k => spec_piSum.l0 k (a + x) ((p ++ [x]) ++ s) (((p ++ [x]) ++ s).length : Int) ((p ++ [x]).length : Int)) (fun k => ?_) (Ev.eq h (by rw [List.sum_cons]; omega))
  rw [spec_piSum.l0, if_pos (by simp <;> omega), if_pos (by omega), if_pos (by simp <;> omega), rd_app, w64 (n := a + x) (by omega) (by omega), w64 (by omega) (by omega)]
  simp
theorem spec_piSum.ev (l : List Int) (hl : l.length ≤ 1000000000) (h0 : ∀ x ∈ l, 0 ≤ x) (hs : l.sum ≤ 1000000000) : Ev (fun k => spec_piSum.f k l) l.sum := by
 have h := spec_piSum.ev_l l [] 0 (by simpa using hl) (by omega) h0 (by omega)
 exact Ev.eq h (by omega)
theorem impl_run.ev_l (s : List Int) : ∀ (p : List Int) (a : Int), p.length + s.length ≤ 1000000000 → 0 ≤ a → (∀ x ∈ s, 0 ≤ x) → a + s.sum ≤ 1000000000 → Ev (fun k => impl_run.l0 k a (p ++ s) ((p ++ s).length : Int) (p.length : Int)) (runL s a) := by
 induction s with
 | nil =>
  intro p a hp h0 hs hsum
  refine Ev.step (f := fun _ => some a) (fun k => ?_) (Ev.val (by simp [runL]))
  rw [impl_run.l0, if_neg (by simp)]
 | cons x s ih =>
  intro p a hp h0 hs hsum
  simp only [List.length_cons] at hp
  rw [List.sum_cons] at hsum
  have hx := hs x (by simp)
  have hs' : ∀ y ∈ s, 0 ≤ y := fun y hy => hs y (by simp [hy])
  have hsn := sum_nonneg s hs'
  have h := ih (p ++ [x]) (a + x) (by simp <;> omega) (by omega) hs' (by omega)
  by_cases c : x > a + 1
  · refine Ev.step (f := fun _ => some a) (fun k => ?_) (Ev.val (by rw [runL, if_pos c]))
    rw [impl_run.l0, if_pos (by simp <;> omega), if_pos (by omega), if_pos (by simp <;> omega), rd_app, w64 (n := a + 1) (by omega) (by omega), if_pos c]
  refine Ev.step (f := fun k => impl_run.l0 k (a + x) ((p ++ [x]) ++ s) (((p ++ [x]) ++ s).length : Int) ((p ++ [x]).length : Int)) (fun k => ?_) (Ev.eq h (by rw [runL, if_neg c]))
  rw [impl_run.l0, if_pos (by simp <;> omega), if_pos (by omega), if_pos (by simp <;> omega), rd_app, w64 (n := a + 1) (by omega) (by omega), if_neg c, w64 (n := a + x) (by omega) (by omega), w64 (by omega) (by omega)]
  simp
theorem impl_run.ev (l : List Int) (hl : l.length ≤ 1000000000) (h0 : ∀ x ∈ l, 0 ≤ x) (hs : l.sum ≤ 1000000000) : Ev (fun k => impl_run.f k l) (runL l 0) := by
 exact impl_run.ev_l l [] 0 (by simpa using hl) (by omega) h0 (by omega)
theorem spec_piRun.ev_l (s : List Int) : ∀ (p : List Int) (a : Int), p.length + s.length ≤ 1000000000 → 0 ≤ a → (∀ x ∈ s, 0 ≤ x) → a + s.sum ≤ 1000000000 → Ev (fun k => spec_piRun.l0 k a (p ++ s) ((p ++ s).length : Int) (p.length : Int)) (runL s a) := by
 induction s with
 | nil =>
  intro p a hp h0 hs hsum
  refine Ev.step (f := fun _ => some a) (fun k => ?_) (Ev.val (by simp [runL]))
  rw [spec_piRun.l0, if_neg (by simp)]
 | cons x s ih =>
  intro p a hp h0 hs hsum
  simp only [List.length_cons] at hp
  rw [List.sum_cons] at hsum
  have hx := hs x (by simp)
  have hs' : ∀ y ∈ s, 0 ≤ y := fun y hy => hs y (by simp [hy])
  have hsn := sum_nonneg s hs'
  have h := ih (p ++ [x]) (a + x) (by simp <;> omega) (by omega) hs' (by omega)
  by_cases c : x > a + 1
  · refine Ev.step (f := fun _ => some a) (fun k => ?_) (Ev.val (by rw [runL, if_pos c]))
    rw [spec_piRun.l0, if_pos (by simp <;> omega), if_pos (by omega), if_pos (by simp <;> omega), rd_app, w64 (n := a + 1) (by omega) (by omega), if_pos c]
  refine Ev.step (f := fun k => spec_piRun.l0 k (a + x) ((p ++ [x]) ++ s) (((p ++ [x]) ++ s).length : Int) ((p ++ [x]).length : Int)) (fun k => ?_) (Ev.eq h (by rw [runL, if_neg c]))
  rw [spec_piRun.l0, if_pos (by simp <;> omega), if_pos (by omega), if_pos (by simp <;> omega), rd_app, w64 (n := a + 1) (by omega) (by omega), if_neg c, w64 (n := a + x) (by omega) (by omega), w64 (by omega) (by omega)]
  simp
theorem spec_piRun.ev (l : List Int) (hl : l.length ≤ 1000000000) (h0 : ∀ x ∈ l, 0 ≤ x) (hs : l.sum ≤ 1000000000) : Ev (fun k => spec_piRun.f k l) (runL l 0) := by
 exact spec_piRun.ev_l l [] 0 (by simpa using hl) (by omega) h0 (by omega)
theorem impl_ways.ev_in {R : List Int} (N : Nat) (hN : N ≤ 1000000001) (p : Int) (hp : 1 ≤ p) (f : Int → Int) (hf : ∀ j, 0 ≤ f j ∧ f j ≤ 2000000000) (L : List Int) (n i : Int) (next : Ev (fun k => impl_ways.l0 k (tab N fun j => if p ≤ j then f j + f (j - p) else f j) L n (wrap64 (i + 1))) R) :
 ∀ (d : Nat) (s : Int), s < N → -1 ≤ s → s + 1 = d → Ev (fun k => impl_ways.l1 k (tab N fun j => if p ≤ j ∧ s < j then f j + f (j - p) else f j) p s L n i) R := by
 intro d
 induction d with
 | zero =>
  intro s h1 h2 h3
  refine Ev.step (fun k => ?_) next
  rw [impl_ways.l1, if_neg (by omega)]
  congr 1
  apply tab_congr
  intro j hj0 hj1
  by_cases c : p ≤ j
  · rw [if_pos ⟨c, by omega⟩, if_pos c]
  rw [if_neg (by omega), if_neg c]
 | succ d ih =>
  intro s h1 h2 h3
  by_cases c : s ≥ p
  · have h := ih (s - 1) (by omega) (by omega) (by omega)
    refine Ev.step (fun k => ?_) h
    rw [impl_ways.l1, if_pos c, if_pos (by omega), if_pos (by rw [tab_length]; omega), w64 (n := s - p) (by omega) (by omega), if_pos (by omega), if_pos (by rw [tab_length]; omega), rd_tab _ _ _ (by omega) (by omega), rd_tab _ _ _ (by omega) (by omega)]
    have f1 := hf s
    have f2 := hf (s - p)
    rw [if_neg (by omega), if_neg (by omega), w64 (by omega) (by omega), w64 (n := s - 1) (by omega) (by omega), tab_set _ _ _ _ (by omega)]
    congr 1
    apply tab_congr
    intro j hj0 hj1
    by_cases e : j = s
    · subst e; rw [if_pos rfl, if_pos ⟨by omega, by omega⟩]
    rw [if_neg e]
    by_cases e2 : p ≤ j ∧ s < j
    · rw [if_pos e2, if_pos ⟨by omega, by omega⟩]
    rw [if_neg e2, if_neg (by omega)]
  refine Ev.step (fun k => ?_) next
  rw [impl_ways.l1, if_neg c]
  congr 1
  apply tab_congr
  intro j hj0 hj1
  by_cases c : p ≤ j
  · rw [if_pos ⟨c, by omega⟩, if_pos c]
  rw [if_neg (by omega), if_neg c]
theorem impl_ways.ev_l (N : Nat) (hN : N ≤ 1000000001) (s : List Int) : ∀ (q : List Int), q.length + s.length ≤ 20 → (∀ x ∈ s, 1 ≤ x) → (∀ x ∈ q, 1 ≤ x) → Ev (fun k => impl_ways.l0 k (tab N (cnt q)) (q ++ s) ((q ++ s).length : Int) (q.length : Int)) (tab N (cnt (q ++ s))) := by
 induction s with
 | nil =>
  intro q hq hs hq1
  refine Ev.step (f := fun _ => some (tab N (cnt q))) (fun k => ?_) (Ev.val (by simp))
  rw [impl_ways.l0, if_neg (by simp)]
 | cons x s ih =>
  intro q hq hs hq1
  simp only [List.length_cons] at hq
  have h := ih (q ++ [x]) (by simp <;> omega) (fun y hy => hs y (by simp [hy])) (fun y hy => (List.mem_append.1 hy).elim (hq1 y) (fun h => by simp at h; rw [h]; exact hs x (by simp)))
  have hx := hs x (by simp)
  have hcn : ∀ j, cnt q j ≤ 1048576 := fun j => Int.le_trans (cnt_le q j) (pow_le_20 (by omega))
  have e : (tab N fun j => if x ≤ j then cnt q j + cnt q (j - x) else cnt q j) = tab N (cnt (q ++ [x])) := by
   apply tab_congr
   intro j hj0 hj1
   rw [cnt_snoc]
   by_cases c : x ≤ j
   · rw [if_pos c]
   rw [if_neg c, cnt_neg q (fun y hy => by have := hq1 y hy; omega) (j - x) (by omega)]; omega
  have hin := impl_ways.ev_in (R := tab N (cnt (q ++ x :: s))) N hN x hx (cnt q) (fun j => ⟨cnt_nonneg q j, by have := hcn j; omega⟩) (q ++ x :: s) ((q ++ x :: s).length : Int) (q.length : Int) (by
   rw [e, w64 (by omega) (by omega)]
   have := h
   simpa using this) N ((N : Int) - 1) (by omega) (by omega) (by omega)
  refine Ev.step (fun k => ?_) hin
  rw [impl_ways.l0, if_pos (by simp <;> omega), if_pos (by omega), if_pos (by simp <;> omega), rd_app, tab_length, w64 (n := (N : Int) - 1) (by omega) (by omega)]
  congr 1
  apply tab_congr
  intro j hj0 hj1
  rw [if_neg (by omega)]
theorem impl_ways.ev (l : List Int) (hl : l.length ≤ 20) (h1 : ∀ x ∈ l, 1 ≤ x) (hs : l.sum ≤ 1000000000) : Ev (fun k => impl_ways.f k l) (tab (l.sum.toNat + 1) (cnt l)) := by
 have h0 : ∀ x ∈ l, 0 ≤ x := fun x hx => by have := h1 x hx; omega
 have hn := sum_nonneg l h0
 unfold impl_ways.f
 refine Ev.bind (impl_total.ev l (by omega) h0 hs) ?_
 rw [w64 (by omega) (by omega)]
 refine Ev.pos (by omega) (Ev.pos (by omega) ?_)
 simp only [Option.bind_some]
 refine Ev.pos (by simp <;> omega) ?_
 have h := impl_ways.ev_l (l.sum.toNat + 1) (by omega) l [] (by simpa using hl) h1 (by simp)
 refine Ev.congr (fun k => ?_) h
 congr 1
 have e : List.replicate (l.sum + 1).toNat (0 : Int) = tab (l.sum.toNat + 1) (fun _ => 0) := by
  rw [show (l.sum + 1).toNat = l.sum.toNat + 1 by omega]
  apply List.ext_getElem
  · simp [tab]
  intro i h1 h2; simp [tab]
 rw [e, tab_set _ _ _ _ (by omega)]
 apply tab_congr
 intro j hj0 hj1
 simp [cnt]
theorem spec_piWays.ev_in {R : List Int} (N : Nat) (hN : N ≤ 1000000001) (p : Int) (hp : 1 ≤ p) (f : Int → Int) (hf : ∀ j, 0 ≤ f j ∧ f j ≤ 2000000000) (L : List Int) (n i : Int) (next : Ev (fun k => spec_piWays.l0 k (tab N fun j => if p ≤ j then f j + f (j - p) else f j) L n (wrap64 (i + 1))) R) :
 ∀ (d : Nat) (s : Int), s < N → -1 ≤ s → s + 1 = d → Ev (fun k => spec_piWays.l1 k (tab N fun j => if p ≤ j ∧ s < j then f j + f (j - p) else f j) p s L n i) R := by
 intro d
 induction d with
 | zero =>
  intro s h1 h2 h3
  refine Ev.step (fun k => ?_) next
  rw [spec_piWays.l1, if_neg (by omega)]
  congr 1
  apply tab_congr
  intro j hj0 hj1
  by_cases c : p ≤ j
  · rw [if_pos ⟨c, by omega⟩, if_pos c]
  rw [if_neg (by omega), if_neg c]
 | succ d ih =>
  intro s h1 h2 h3
  by_cases c : s ≥ p
  · have h := ih (s - 1) (by omega) (by omega) (by omega)
    refine Ev.step (fun k => ?_) h
    rw [spec_piWays.l1, if_pos c, if_pos (by omega), if_pos (by rw [tab_length]; omega), w64 (n := s - p) (by omega) (by omega), if_pos (by omega), if_pos (by rw [tab_length]; omega), rd_tab _ _ _ (by omega) (by omega), rd_tab _ _ _ (by omega) (by omega)]
    have f1 := hf s
    have f2 := hf (s - p)
    rw [if_neg (by omega), if_neg (by omega), w64 (by omega) (by omega), w64 (n := s - 1) (by omega) (by omega), tab_set _ _ _ _ (by omega)]
    congr 1
    apply tab_congr
    intro j hj0 hj1
    by_cases e : j = s
    · subst e; rw [if_pos rfl, if_pos ⟨by omega, by omega⟩]
    rw [if_neg e]
    by_cases e2 : p ≤ j ∧ s < j
    · rw [if_pos e2, if_pos ⟨by omega, by omega⟩]
    rw [if_neg e2, if_neg (by omega)]
  refine Ev.step (fun k => ?_) next
  rw [spec_piWays.l1, if_neg c]
  congr 1
  apply tab_congr
  intro j hj0 hj1
  by_cases c : p ≤ j
  · rw [if_pos ⟨c, by omega⟩, if_pos c]
  rw [if_neg (by omega), if_neg c]
theorem spec_piWays.ev_l (N : Nat) (hN : N ≤ 1000000001) (s : List Int) : ∀ (q : List Int), q.length + s.length ≤ 20 → (∀ x ∈ s, 1 ≤ x) → (∀ x ∈ q, 1 ≤ x) → Ev (fun k => spec_piWays.l0 k (tab N (cnt q)) (q ++ s) ((q ++ s).length : Int) (q.length : Int)) (tab N (cnt (q ++ s))) := by
 induction s with
 | nil =>
  intro q hq hs hq1
  refine Ev.step (f := fun _ => some (tab N (cnt q))) (fun k => ?_) (Ev.val (by simp))
  rw [spec_piWays.l0, if_neg (by simp)]
 | cons x s ih =>
  intro q hq hs hq1
  simp only [List.length_cons] at hq
  have h := ih (q ++ [x]) (by simp <;> omega) (fun y hy => hs y (by simp [hy])) (fun y hy => (List.mem_append.1 hy).elim (hq1 y) (fun h => by simp at h; rw [h]; exact hs x (by simp)))
  have hx := hs x (by simp)
  have hcn : ∀ j, cnt q j ≤ 1048576 := fun j => Int.le_trans (cnt_le q j) (pow_le_20 (by omega))
  have e : (tab N fun j => if x ≤ j then cnt q j + cnt q (j - x) else cnt q j) = tab N (cnt (q ++ [x])) := by
   apply tab_congr
   intro j hj0 hj1
   rw [cnt_snoc]
   by_cases c : x ≤ j
   · rw [if_pos c]
   rw [if_neg c, cnt_neg q (fun y hy => by have := hq1 y hy; omega) (j - x) (by omega)]; omega
  have hin := spec_piWays.ev_in (R := tab N (cnt (q ++ x :: s))) N hN x hx (cnt q) (fun j => ⟨cnt_nonneg q j, by have := hcn j; omega⟩) (q ++ x :: s) ((q ++ x :: s).length : Int) (q.length : Int) (by
   rw [e, w64 (by omega) (by omega)]
   have := h
   simpa using this) N ((N : Int) - 1) (by omega) (by omega) (by omega)
  refine Ev.step (fun k => ?_) hin
  rw [spec_piWays.l0, if_pos (by simp <;> omega), if_pos (by omega), if_pos (by simp <;> omega), rd_app, tab_length, w64 (n := (N : Int) - 1) (by omega) (by omega)]
  congr 1
  apply tab_congr
  intro j hj0 hj1
  rw [if_neg (by omega)]
theorem spec_piWays.ev (l : List Int) (hl : l.length ≤ 20) (h1 : ∀ x ∈ l, 1 ≤ x) (hs : l.sum ≤ 1000000000) : Ev (fun k => spec_piWays.f k l) (tab (l.sum.toNat + 1) (cnt l)) := by
 have h0 : ∀ x ∈ l, 0 ≤ x := fun x hx => by have := h1 x hx; omega
 have hn := sum_nonneg l h0
 unfold spec_piWays.f
 refine Ev.bind (spec_piSum.ev l (by omega) h0 hs) ?_
 rw [w64 (by omega) (by omega)]
 refine Ev.pos (by omega) (Ev.pos (by omega) ?_)
 simp only [Option.bind_some]
 refine Ev.pos (by simp <;> omega) ?_
 have h := spec_piWays.ev_l (l.sum.toNat + 1) (by omega) l [] (by simpa using hl) h1 (by simp)
 refine Ev.congr (fun k => ?_) h
 congr 1
 have e : List.replicate (l.sum + 1).toNat (0 : Int) = tab (l.sum.toNat + 1) (fun _ => 0) := by
  rw [show (l.sum + 1).toNat = l.sum.toNat + 1 by omega]
  apply List.ext_getElem
  · simp [tab]
  intro i h1 h2; simp [tab]
 rw [e, tab_set _ _ _ _ (by omega)]
 apply tab_congr
 intro j hj0 hj1
 simp [cnt]
theorem spec_piMake.ev (l : List Int) (a : Int) (hl : l.length ≤ 20) (h1 : ∀ x ∈ l, 1 ≤ x) (hs : l.sum ≤ 1000000000) (ha : 0 ≤ a) : Ev (fun k => spec_piMake.f k l a) (cnt l a) := by
 have h0 : ∀ x ∈ l, 0 ≤ x := fun x hx => by have := h1 x hx; omega
 have hn := sum_nonneg l h0
 unfold spec_piMake.f
 refine Ev.bind (spec_piWays.ev l hl h1 hs) (Ev.ite (fun c => Ev.val ?_) (fun c => Ev.pos ha (Ev.pos (by omega) (Ev.val ?_))))
 · rw [tab_length] at c; rw [cnt_above l h0 a (by omega)]
 rw [tab_length] at c; rw [rd_tab _ _ _ ha (by omega)]
theorem impl_waysOf.ev (l : List Int) (a : Int) (hl : l.length ≤ 20) (h1 : ∀ x ∈ l, 1 ≤ x) (hs : l.sum ≤ 1000000000) (ha : 0 ≤ a) : Ev (fun k => impl_waysOf.f k l a) (cnt l a) := by
 have h0 : ∀ x ∈ l, 0 ≤ x := fun x hx => by have := h1 x hx; omega
 have hn := sum_nonneg l h0
 unfold impl_waysOf.f
 refine Ev.bind (impl_total.ev l (by omega) h0 hs) (Ev.ite (fun c => Ev.val ?_) (fun c => Ev.bind (impl_ways.ev l hl h1 hs) (Ev.pos ha (Ev.pos ?_ (Ev.val ?_)))))
 · rw [cnt_above l h0 a (by omega)]
 · rw [tab_length]; omega
 rw [rd_tab _ _ _ ha (by omega)]
theorem spec_l1Own.val (l : List Int) (hl : l.length ≤ 1000000) : spec_l1Own.f l = some l := by
 unfold spec_l1Own.f
 rw [Option.bind_some, if_pos (by simp <;> omega)]; rfl
theorem spec_piPut.ev_l (l : List Int) (n : Int) (hl : l.length ≤ 100000) : ∀ (k : Nat), k ≤ l.length → (∀ x ∈ l.drop k, n < x) → ∃ r, Ev (fun m => spec_piPut.l0 m l n (k : Int)) r ∧ r.Perm (n :: l) ∧ (l.Pairwise (fun x y => x ≤ y) → r.Pairwise (fun x y => x ≤ y))
 | 0, _, hd => by
  refine ⟨n :: l, ?_, List.Perm.refl _, fun h => List.pairwise_cons.2 ⟨fun y hy => by have := hd y (by simpa using hy); omega, h⟩⟩
  refine Ev.step (f := fun _ => some (n :: l)) (fun k => ?_) (Ev.val rfl)
  rw [spec_piPut.l0, if_neg (by omega), if_pos (by omega), if_pos (by omega)]
  simp only [Int.toNat_natCast, List.take_zero, List.drop_zero]
  rw [spec_l1Own.val [] (by simp), Option.bind_some, Option.bind_some, if_pos (by simp), Option.bind_some, if_pos (by simp <;> omega)]
  rfl
 | k + 1, hk, hd => by
  have hw : wrap64 (((k + 1 : Nat) : Int) - 1) = (k : Int) := by rw [w64 (by omega) (by omega)]; omega
  have hr : rd l (k : Int) = l[k] := rd_eq l k (by omega)
  by_cases c : l[k] > n
  · obtain ⟨r, h1, h2, h3⟩ := spec_piPut.ev_l l n hl k (by omega) (fun x hx => by
     rw [List.drop_eq_getElem_cons (by omega)] at hx
     rcases List.mem_cons.1 hx with e | e
     · rw [e]; exact c
     exact hd x e)
    refine ⟨r, Ev.step (f := fun m => spec_piPut.l0 m l n (k : Int)) (fun m => ?_) h1, h2, h3⟩
    rw [spec_piPut.l0, if_pos (by omega), hw, if_pos (by omega), if_pos (by omega), hr, if_pos c]
  refine ⟨l.take (k + 1) ++ n :: l.drop (k + 1), ?_, ?_, ?_⟩
  · refine Ev.step (f := fun _ => some (l.take (k + 1) ++ n :: l.drop (k + 1))) (fun m => ?_) (Ev.val rfl)
    rw [spec_piPut.l0, if_pos (by omega), hw, if_pos (by omega), if_pos (by omega), hr, if_neg c, if_pos (by omega), if_pos (by omega)]
    simp only [Int.toNat_natCast]
    rw [spec_l1Own.val _ (by simp <;> omega), Option.bind_some, Option.bind_some, if_pos (by simp <;> omega), Option.bind_some, if_pos (by simp <;> omega)]
    simp
  · refine List.perm_middle.trans ?_
    rw [List.take_append_drop]
  intro h
  have h0 := h
  rw [← List.take_append_drop (k + 1) l, List.pairwise_append] at h0
  obtain ⟨ha, hb, _⟩ := h0
  rw [List.pairwise_append, List.pairwise_cons]
  have hA : ∀ x ∈ l.take (k + 1), x ≤ n := by
   intro x hx
   rw [List.take_succ_eq_append_getElem (by omega)] at hx ha
   rcases List.mem_append.1 hx with e | e
   · have := (List.pairwise_append.1 ha).2.2 x e l[k] (by simp); omega
   rw [List.mem_singleton.1 e]; omega
  refine ⟨ha, ⟨fun y hy => by have := hd y hy; omega, hb⟩, fun x hx y hy => ?_⟩
  have h5 := hA x hx
  rcases List.mem_cons.1 hy with e | e
  · rw [e]; exact h5
  have := hd y e; omega
theorem spec_piPut.ev (l : List Int) (n : Int) (hl : l.length ≤ 100000) : ∃ r, Ev (fun m => spec_piPut.f m l n) r ∧ r.Perm (n :: l) ∧ (l.Pairwise (fun x y => x ≤ y) → r.Pairwise (fun x y => x ≤ y)) :=
 spec_piPut.ev_l l n hl l.length (Nat.le_refl _) (fun x hx => by simp at hx)
def BytesL (l : List Int) : Prop := l.length ≤ 1048576 ∧ ∀ x ∈ l, 0 ≤ x ∧ x ≤ 255
theorem rd_bytes {l : List Int} (h : BytesL l) {i : Int} (h0 : 0 ≤ i) (h1 : i < (l.length : Int)) : 0 ≤ rd l i ∧ rd l i ≤ 255 := by
 obtain ⟨n, rfl⟩ := Int.eq_ofNat_of_zero_le h0
 have hn : n < l.length := by omega
 rw [rd_eq l n hn]
 exact h.2 _ (List.getElem_mem hn)
theorem u64_range (n : Int) : 0 ≤ IntKind.u64.wrap n ∧ IntKind.u64.wrap n < 18446744073709551616 := by
 have : IntKind.u64.wrap n = n % 18446744073709551616 := by simp [IntKind.wrap, IntKind.bits, IntKind.signed]
 rw [this]; omega
theorem seed_byte (n : Int) : 0 ≤ wrap64 (Go.bits .and .u64 (IntKind.u64.wrap n / 1099511627776) 255) ∧ wrap64 (Go.bits .and .u64 (IntKind.u64.wrap n / 1099511627776) 255) ≤ 255 := by
 have h := u64_range n
 generalize IntKind.u64.wrap n = m at *
 have hk : ∀ n : Int, 0 ≤ n → n < 2 ^ 63 → IntKind.u64.wrap n = n := fun n h0 h1 => by
  have : IntKind.u64.wrap n = n % 18446744073709551616 := by simp [IntKind.wrap, IntKind.bits, IntKind.signed]
  rw [this]; omega
 have e : Go.bits .and .u64 (m / 1099511627776) 255 = (m / 1099511627776) % 256 := Go.bits_mask .u64 63 (by decide) hk 8 (by decide) _ (by omega) (by omega)
 rw [e, w64 (by omega) (by omega)]; omega
theorem cur_next {l : List Int} (h : BytesL l) {a : Int} (b : Int) (h0 : 0 ≤ a) (h1 : a ≤ 1000000000000) : ∃ r t, spec_l1Cur_next.f l a b = some (r, a + 1, t) ∧ 0 ≤ r ∧ r ≤ 255 := by
 have ew : wrap64 (a + 1) = a + 1 := w64 (by omega) (by omega)
 have hl := h.1
 unfold spec_l1Cur_next.f
 rw [ew]
 by_cases c : a < (l.length : Int)
 · have hb := rd_bytes h h0 c
   rw [if_pos c, if_pos h0, if_pos (by omega), w64 (n := rd l a) (by omega) (by omega)]
   exact ⟨_, _, rfl, hb.1, hb.2⟩
 rw [if_neg c, if_neg (by omega)]
 exact ⟨_, _, rfl, (seed_byte _).1, (seed_byte _).2⟩
theorem cur_pick {l : List Int} (h : BytesL l) {a : Int} (b : Int) {n : Int} (h0 : 0 ≤ a) (h1 : a ≤ 999999999999) (hn : 1 ≤ n) (hn' : n ≤ 65536) : ∃ r a' t, spec_l1Cur_pick.f l a b n = some (r, a', t) ∧ 0 ≤ r ∧ r < n ∧ a ≤ a' ∧ a' ≤ a + 2 := by
 unfold spec_l1Cur_pick.f
 by_cases c : n ≤ 1
 · rw [if_pos c]; exact ⟨_, _, _, rfl, by omega, by omega, by omega, by omega⟩
 rw [if_neg c]
 obtain ⟨r, t, e, hr0, hr1⟩ := cur_next h b h0 (by omega)
 rw [e, Option.bind_some]
 by_cases d : n > 200
 · obtain ⟨r', t', e', hr0', hr1'⟩ := cur_next h t (a := a + 1) (by omega) (by omega)
   have e1 : wrap64 (r * 256) = r * 256 := w64 (by omega) (by omega)
   have e2 : wrap64 (r * 256 + r') = r * 256 + r' := w64 (by omega) (by omega)
   simp only
   rw [if_pos d, e', Option.bind_some, if_neg (by omega)]
   simp only
   rw [e1, e2]
   refine ⟨_, _, _, rfl, Int.tmod_nonneg _ (by omega), Int.tmod_lt_of_pos _ (by omega), by omega, by omega⟩
 simp only
 rw [if_neg d, if_neg (by omega)]
 exact ⟨_, _, _, rfl, Int.tmod_nonneg _ hr0, Int.tmod_lt_of_pos _ (by omega), by omega, by omega⟩
theorem cur_among {l : List Int} (h : BytesL l) {a : Int} (b : Int) (m : List Int) (h0 : 0 ≤ a) (h1 : a ≤ 999999999999) (hn : 1 ≤ m.length) (hn' : m.length ≤ 65536) : ∃ r a' t, spec_l1Cur_among.f l a b m = some (r, a', t) ∧ r ∈ m ∧ a ≤ a' ∧ a' ≤ a + 2 := by
 unfold spec_l1Cur_among.f
 obtain ⟨r, a', t, e, hr0, hr1, ha, ha'⟩ := cur_pick h b (n := (m.length : Int)) h0 h1 (by omega) (by omega)
 rw [e, Option.bind_some]
 simp only
 rw [if_pos hr0, if_pos hr1]
 refine ⟨_, _, _, rfl, ?_, ha, ha'⟩
 obtain ⟨n, rfl⟩ := Int.eq_ofNat_of_zero_le hr0
 rw [rd_eq m n (by omega)]
 exact List.getElem_mem _
theorem cur_one {l : List Int} (h : BytesL l) {a : Int} (b : Int) {n : Int} (h0 : 0 ≤ a) (h1 : a ≤ 999999999999) (hn : 1 ≤ n) (hn' : n ≤ 65536) : ∃ r a' t, spec_l1Cur_one.f l a b n = some (r, a', t) ∧ a ≤ a' ∧ a' ≤ a + 2 := by
 unfold spec_l1Cur_one.f
 obtain ⟨r, a', t, e, hr0, hr1, ha, ha'⟩ := cur_pick h b h0 h1 hn hn'
 rw [e, Option.bind_some]
 exact ⟨_, _, _, rfl, ha, ha'⟩
theorem bytes_of {l : List Int} (h1 : l.length ≤ 1048576) (h : ∀ x ∈ l, (Lit.int .u8 x).wf = true) : BytesL l := ⟨h1, fun x hx => by
 have := h x hx
 simp [Lit.wf, IntKind.min, IntKind.max, IntKind.bits, IntKind.signed] at this
 omega⟩
theorem laws_tSame.ev_l (s t : List Int) : ∀ (p : List Int), p.length + s.length ≤ 35184372088832 → s.length = t.length → ∀ q : List Int, q.length = p.length → Ev (fun k => laws_tSame.l0 k (p ++ s) (q ++ t) ((p ++ s).length : Int) (p.length : Int)) (decide (s = t)) := by
 induction s generalizing t with
 | nil =>
  intro p hp ht q hq
  obtain rfl : t = [] := List.eq_nil_of_length_eq_zero (by simpa using ht.symm)
  refine Ev.step (f := fun _ => some true) (fun k => ?_) (Ev.val (by simp))
  rw [laws_tSame.l0, if_neg (by simp)]
 | cons x s ih =>
  intro p hp ht q hq
  obtain _ | ⟨y, t⟩ := t
  · simp at ht
  simp only [List.length_cons] at ht hp
  have e1 : rd (p ++ x :: s) (p.length : Int) = x := rd_app p x s
  have e2 : rd (q ++ y :: t) (p.length : Int) = y := by rw [← hq]; exact rd_app q y t
  by_cases e : x = y
  · subst e
    have h := ih t (p ++ [x]) (by simp <;> omega) (by omega) (q ++ [x]) (by simp [hq])
    refine Ev.step (f := fun k => laws_tSame.l0 k ((p ++ [x]) ++ s) ((q ++ [x]) ++ t) (((p ++ [x]) ++ s).length : Int) ((p ++ [x]).length : Int)) (fun k => ?_) (Ev.eq h (by simp))
    rw [laws_tSame.l0, if_pos (by simp <;> omega), if_pos (by omega), if_pos (by simp <;> omega), if_pos (by simp <;> omega), e1, e2, if_pos rfl, w64 (by omega) (by omega)]
    simp
  refine Ev.step (f := fun _ => some false) (fun k => ?_) (Ev.val (by simp [e]))
  rw [laws_tSame.l0, if_pos (by simp <;> omega), if_pos (by omega), if_pos (by simp <;> omega), if_pos (by simp <;> omega), e1, e2, if_neg e]
theorem laws_tSame.ev (s t : List Int) (hl : s.length ≤ 35184372088832) : Ev (fun k => laws_tSame.f k s t) (decide (s = t)) := by
 unfold laws_tSame.f
 refine Ev.ite (fun h => ?_) (fun h => Ev.val ?_)
 · exact laws_tSame.ev_l s t [] (by simpa using hl) (by omega) [] rfl
 have : s ≠ t := by rintro rfl; exact h rfl
 simp [this]
theorem laws_tSum.ev_l (s : List Int) : ∀ (p : List Int) (a : Int), p.length + s.length ≤ 35184372088832 → 0 ≤ a → (∀ x ∈ s, 0 ≤ x) → a + s.sum ≤ 9223372036854775807 → Ev (fun k => laws_tSum.l0 k a (p ++ s) ((p ++ s).length : Int) (p.length : Int)) (a + s.sum) := by
 induction s with
 | nil =>
  intro p a hp h0 _ _
  refine Ev.step (f := fun _ => some a) (fun k => ?_) (Ev.val (by simp))
  rw [laws_tSum.l0, if_neg (by simp)]
 | cons x s ih =>
  intro p a hp h0 hx hs
  simp only [List.length_cons, List.sum_cons] at hp hs
  have e1 : rd (p ++ x :: s) (p.length : Int) = x := rd_app p x s
  have hx0 := hx x (by simp)
  have hsum : 0 ≤ s.sum := by
   have : ∀ l : List Int, (∀ y ∈ l, 0 ≤ y) → 0 ≤ l.sum := fun l => by
    induction l with
    | nil => intro _; simp
    | cons y l ih => intro h; have := ih (fun z hz => h z (by simp [hz])); have := h y (by simp); simp; omega
   exact this s (fun y hy => hx y (by simp [hy]))
  have h := ih (p ++ [x]) (a + x) (by simp; omega) (by omega) (fun y hy => hx y (by simp [hy])) (by omega)
  refine Ev.step (f := fun k => laws_tSum.l0 k (a + x) ((p ++ [x]) ++ s) (((p ++ [x]) ++ s).length : Int) ((p ++ [x]).length : Int)) (fun k => ?_) (Ev.eq h (by simp; omega))
  rw [laws_tSum.l0, if_pos (by simp <;> omega), if_pos (by omega), if_pos (by simp <;> omega), e1, w64 (n := a + x) (by omega) (by omega), w64 (by omega) (by omega)]
  simp
theorem laws_tSum.ev (s : List Int) (hl : s.length ≤ 35184372088832) (h0 : ∀ x ∈ s, 0 ≤ x) (hs : s.sum ≤ 9223372036854775807) : Ev (fun k => laws_tSum.f k s) s.sum := Ev.eq (laws_tSum.ev_l s [] 0 (by simpa using hl) (by omega) h0 (by omega)) (by simp)
theorem laws_tHas.ev_l (n : Int) (s : List Int) : ∀ (p : List Int), p.length + s.length ≤ 35184372088832 → Ev (fun k => laws_tHas.l0 k n (p ++ s) ((p ++ s).length : Int) (p.length : Int)) (decide (n ∈ s)) := by
 induction s with
 | nil =>
  intro p hp
  refine Ev.step (f := fun _ => some false) (fun k => ?_) (Ev.val (by simp))
  rw [laws_tHas.l0, if_neg (by simp)]
 | cons x s ih =>
  intro p hp
  simp only [List.length_cons] at hp
  have e1 : rd (p ++ x :: s) (p.length : Int) = x := rd_app p x s
  by_cases e : x = n
  · refine Ev.step (f := fun _ => some true) (fun k => ?_) (Ev.val (by simp [e]))
    rw [laws_tHas.l0, if_pos (by simp <;> omega), if_pos (by omega), if_pos (by simp <;> omega), e1, if_pos e]
  have h := ih (p ++ [x]) (by simp; omega)
  refine Ev.step (f := fun k => laws_tHas.l0 k n ((p ++ [x]) ++ s) (((p ++ [x]) ++ s).length : Int) ((p ++ [x]).length : Int)) (fun k => ?_) (Ev.eq h (by simp [Ne.symm e]))
  rw [laws_tHas.l0, if_pos (by simp <;> omega), if_pos (by omega), if_pos (by simp <;> omega), e1, if_neg e, w64 (by omega) (by omega)]
  simp
theorem laws_tHas.ev (s : List Int) (n : Int) (hl : s.length ≤ 35184372088832) : Ev (fun k => laws_tHas.f k s n) (decide (n ∈ s)) := Ev.eq (laws_tHas.ev_l n s [] (by simpa using hl)) (by simp)
theorem laws_tRises.ev_l (s : List Int) : ∀ (p : List Int) (x : Int), p.length + s.length + 1 ≤ 35184372088832 → Ev (fun k => laws_tRises.l0 k (p ++ x :: s) ((p.length + 1 : Nat) : Int)) (risesB (x :: s)) := by
 induction s with
 | nil =>
  intro p x hp
  refine Ev.step (f := fun _ => some true) (fun k => ?_) (Ev.val rfl)
  rw [laws_tRises.l0, if_neg (by simp)]
 | cons y s ih =>
  intro p x hp
  simp only [List.length_cons] at hp
  have e1 : rd (p ++ x :: y :: s) (p.length : Int) = x := rd_app p x (y :: s)
  have e2 : rd (p ++ x :: y :: s) ((p.length + 1 : Nat) : Int) = y := by
   have := rd_app (p ++ [x]) y s
   simpa using this
  have hw : wrap64 (((p.length + 1 : Nat) : Int) - 1) = (p.length : Int) := by rw [w64 (by omega) (by omega)]; omega
  by_cases c : x ≥ y
  · refine Ev.step (f := fun _ => some false) (fun k => ?_) (Ev.val (by rw [risesB, decide_eq_false (by omega)]; rfl))
    rw [laws_tRises.l0, if_pos (by simp <;> omega), hw, if_pos (by omega), if_pos (by simp <;> omega), if_pos (by omega), e1, e2, if_pos c]
  have h := ih (p ++ [x]) y (by simp; omega)
  refine Ev.step (f := fun k => laws_tRises.l0 k ((p ++ [x]) ++ y :: s) (((p ++ [x]).length + 1 : Nat) : Int)) (fun k => ?_) (Ev.eq h (by rw [show risesB (x :: y :: s) = (decide (x < y) && risesB (y :: s)) from rfl, decide_eq_true (by omega)]; rfl))
  rw [laws_tRises.l0, if_pos (by simp <;> omega), hw, if_pos (by omega), if_pos (by simp <;> omega), if_pos (by omega), e1, e2, if_neg c, w64 (by omega) (by omega)]
  simp [Int.add_assoc]
theorem laws_tRises.ev (s : List Int) (hl : s.length ≤ 35184372088832) : Ev (fun k => laws_tRises.f k s) (risesB s) := by
 unfold laws_tRises.f
 cases s with
 | nil =>
  refine Ev.step (f := fun _ => some true) (fun k => ?_) (Ev.val rfl)
  rw [laws_tRises.l0, if_neg (by simp)]
 | cons x s => exact laws_tRises.ev_l s [] x (by simpa using hl)
theorem big_no {l0 l1 : List Int} (h : ¬ laws_big.f l0 l1 = some true) : l0.length ≤ 1048576 ∧ l1.length ≤ 1048576 ∧ laws_big.f l0 l1 = some false := by
 unfold laws_big.f at h ⊢
 by_cases c : (l0.length : Int) > 1048576
 · rw [if_pos c] at h; exact absurd rfl h
 rw [if_neg c] at h ⊢
 rw [w64 (by omega) (by omega)] at h ⊢
 by_cases d : (l1.length : Int) > 1048576 - (l0.length : Int)
 · rw [decide_eq_true d] at h; exact absurd rfl h
 exact ⟨by omega, by omega, by rw [decide_eq_false d]⟩
/-! ### Bytes cut at a byte; decimal numbers read -/
theorem cur_sureP_l {l : List Int} (h : BytesL l) : ∀ (d : Nat) (x3 : List Int), x3.length + d ≤ 10 → (∀ x ∈ x3, 1 ≤ x ∧ x ≤ 200) → ∀ {a : Int} (s : Int), 0 ≤ a → a + 6 * (d : Int) ≤ 800000000000 → ∃ r a' t, Ev (fun k => spec_l1Cur_surePieces.l0 k x3 (d : Int) l a s) (r, a', t) ∧ r.length ≤ 10 ∧ (∀ x ∈ r, 1 ≤ x ∧ x ≤ 200) ∧ a ≤ a' ∧ a' ≤ a + 6 * (d : Int)
 | 0, x3, hx, hi, a, s, h0, h1 => ⟨x3, a, s, Ev.step (f := fun _ => some (x3, a, s)) (fun k => by rw [spec_l1Cur_surePieces.l0, if_neg (by omega)]) (Ev.val rfl), by omega, hi, by omega, by omega⟩
 | d + 1, x3, hx, hi, a, s, h0, h1 => by
  obtain ⟨r, a1, s1, e1, hr0, hr1, ha, ha'⟩ := cur_pick h s (n := 9) h0 (by omega) (by omega) (by omega)
  obtain ⟨r2, a2, s2, e2, hs0, hs1, hb, hb'⟩ := cur_pick h s1 (a := a1) (n := 6) (by omega) (by omega) (by omega) (by omega)
  have ed : wrap64 (((d + 1 : Nat) : Int) - 1) = (d : Int) := by rw [w64 (by omega) (by omega)]; omega
  have put : ∀ (n : Int), 1 ≤ n → n ≤ 200 → ∃ q, Ev (fun m => spec_piPut.f m x3 n) q ∧ q.length = x3.length + 1 ∧ ∀ x ∈ q, 1 ≤ x ∧ x ≤ 200 := by
   intro n hn hn'
   obtain ⟨q, q1, q2, _⟩ := spec_piPut.ev x3 n (by omega)
   refine ⟨q, q1, by simpa using q2.length_eq, fun x hx => ?_⟩
   rcases List.mem_cons.1 (q2.subset hx) with e | e
   · omega
   exact hi x e
  have w1 : ∀ z : Int, 0 ≤ z → z < 200 → wrap64 (1 + z) = 1 + z := fun z hz hz' => w64 (by omega) (by omega)
  by_cases c : r2 = 0
  · have hsum : x3.sum ≤ 1000000000 := by have := sum_le x3 200 (fun x hx => (hi x hx).2); omega
    have hR := spec_piRun.ev x3 (by omega) (fun x hx => by have := (hi x hx).1; omega) hsum
    have hR0 : ∀ (t : List Int) (b : Int), 0 ≤ b → (∀ x ∈ t, 0 ≤ x) → 0 ≤ runL t b ∧ runL t b ≤ b + t.sum := by
     intro t
     induction t with
     | nil => intro b hb _; simp [runL]; omega
     | cons y t ih =>
      intro b hb ht
      have hy := ht y (by simp)
      have ht' : ∀ x ∈ t, 0 ≤ x := fun x hx => ht x (by simp [hx])
      have := sum_nonneg t ht'
      rw [runL, List.sum_cons]
      split
      · omega
      have := ih (b + y) (by omega) ht'; omega
    have hr := hR0 x3 0 (by omega) (fun x hx => by have := (hi x hx).1; omega)
    generalize runL x3 0 = rn at hR hr
    have e3 : spec_l1Least.f (wrap64 (rn + 1)) 200 = some (if rn + 1 < 200 then rn + 1 else 200) := by
     unfold spec_l1Least.f; rw [w64 (by omega) (by omega)]; split <;> rfl
    obtain ⟨q, q1, q2, q3⟩ := put (if rn + 1 < 200 then rn + 1 else 200) (by split <;> omega) (by split <;> omega)
    obtain ⟨r4, a4, s4, e4, g1, g2, g3, g4⟩ := cur_sureP_l h d q (by omega) q3 (a := a2) s2 (by omega) (by omega)
    refine ⟨r4, a4, s4, Ev.step (f := fun k => (spec_piRun.f k x3).bind fun t163 => (spec_l1Least.f (wrap64 (t163 + 1)) 200).bind fun t164 => (spec_piPut.f k x3 t164).bind fun t165 => spec_l1Cur_surePieces.l0 k t165 (d : Int) l a2 s2) (fun k => ?_) (Ev.bind hR (Ev.bindc e3 (Ev.bind q1 e4))), g1, g2, by omega, by omega⟩
    rw [spec_l1Cur_surePieces.l0, if_pos (by omega), e1, Option.bind_some, e2, Option.bind_some, if_pos c, ed]
  by_cases c2 : r2 = 1
  · obtain ⟨r3, a3, s3, e3, hc0, hc1, hd, hd'⟩ := cur_pick h s2 (a := a2) (n := 60) (by omega) (by omega) (by omega) (by omega)
    obtain ⟨q, q1, q2, q3⟩ := put (1 + r3) (by omega) (by omega)
    obtain ⟨r4, a4, s4, e4, g1, g2, g3, g4⟩ := cur_sureP_l h d q (by omega) q3 (a := a3) s3 (by omega) (by omega)
    refine ⟨r4, a4, s4, Ev.step (f := fun k => (spec_piPut.f k x3 (1 + r3)).bind fun t165 => spec_l1Cur_surePieces.l0 k t165 (d : Int) l a3 s3) (fun k => ?_) (Ev.bind q1 e4), g1, g2, by omega, by omega⟩
    rw [spec_l1Cur_surePieces.l0, if_pos (by omega), e1, Option.bind_some, e2, Option.bind_some, if_neg c, if_pos c2, e3, Option.bind_some, ed, w1 r3 hc0 (by omega)]
  obtain ⟨q, q1, q2, q3⟩ := put (1 + r) (by omega) (by omega)
  obtain ⟨r4, a4, s4, e4, g1, g2, g3, g4⟩ := cur_sureP_l h d q (by omega) q3 (a := a2) s2 (by omega) (by omega)
  refine ⟨r4, a4, s4, Ev.step (f := fun k => (spec_piPut.f k x3 (1 + r)).bind fun t165 => spec_l1Cur_surePieces.l0 k t165 (d : Int) l a2 s2) (fun k => ?_) (Ev.bind q1 e4), g1, g2, by omega, by omega⟩
  rw [spec_l1Cur_surePieces.l0, if_pos (by omega), e1, Option.bind_some, e2, Option.bind_some, if_neg c, if_neg c2, ed, w1 r hr0 (by omega)]
theorem cur_sureP {l : List Int} (h : BytesL l) (m : Int) (hm : 0 ≤ m) (hm' : m ≤ 9) {a : Int} (s : Int) (h0 : 0 ≤ a) (h1 : a ≤ 700000000000) : ∃ r a' t, Ev (fun k => spec_l1Cur_surePieces.f k l a s m) (r, a', t) ∧ r.length ≤ 10 ∧ (∀ x ∈ r, 1 ≤ x ∧ x ≤ 200) ∧ a ≤ a' ∧ a' ≤ a + 100 := by
 unfold spec_l1Cur_surePieces.f
 obtain ⟨r, a1, s1, e1, hr0, hr1, ha, ha'⟩ := cur_pick h s (n := m + 1) h0 (by omega) (by omega) (by omega)
 obtain ⟨n, rfl⟩ := Int.eq_ofNat_of_zero_le hr0
 obtain ⟨r2, a2, s2, e2, g1, g2, g3, g4⟩ := cur_sureP_l h n [] (by simp; omega) (by simp) (a := a1) s1 (by omega) (by omega)
 refine ⟨_, _, _, Ev.bindc (by rw [w64 (n := m + 1) (by omega) (by omega)]; exact e1) e2, g1, g2, by omega, by omega⟩
theorem piGood_sum {l : List Int} (h : piGoodB l = true) : l.length ≤ 20 ∧ (∀ x ∈ l, 1 ≤ x ∧ x ≤ 10000) ∧ l.Pairwise (fun x y => x ≤ y) ∧ 0 ≤ l.sum ∧ l.sum ≤ 200000 := by
 unfold piGoodB at h
 simp only [Bool.and_eq_true, decide_eq_true_eq, List.all_eq_true] at h
 obtain ⟨⟨h1, h2⟩, h3⟩ := h
 have h4 := sum_le l 10000 (fun x hx => (h2 x hx).2)
 have h5 := sum_nonneg l (fun x hx => by have := (h2 x hx).1; omega)
 refine ⟨h1, h2, ?_, h5, by omega⟩
 have srt : ∀ l : List Int, sortedB l = true → l.Pairwise (fun x y => x ≤ y) := by
  intro l
  induction l with
  | nil => intro _; exact List.Pairwise.nil
  | cons x s ih =>
   intro hs
   cases s with
   | nil => simp
   | cons y s =>
    rw [sortedB, Bool.and_eq_true, decide_eq_true_eq] at hs
    have := ih hs.2
    rw [List.pairwise_cons] at this ⊢
    refine ⟨fun z hz => ?_, ih hs.2⟩
    rcases List.mem_cons.1 hz with e | e
    · omega
    have := this.1 z e; omega
 exact srt l h3
theorem cur_pieces {l : List Int} (h : BytesL l) {a : Int} (s : Int) (h0 : 0 ≤ a) (h1 : a ≤ 600000000000) : ∃ r a' t, Ev (fun k => spec_l1Cur_pieces.f k l a s) (r, a', t) ∧ r.length ≤ 30 ∧ (piGoodB r = true → r.sum ≤ 20000) ∧ a ≤ a' ∧ a' ≤ a + 200 := by
 unfold spec_l1Cur_pieces.f
 obtain ⟨r, a1, s1, e1, hl, hi, ha, ha'⟩ := cur_sureP h 8 (by omega) (by omega) s h0 (by omega)
 have hs := sum_le r 200 (fun x hx => (hi x hx).2)
 obtain ⟨r2, a2, s2, e2, hb0, hb1, hb, hb'⟩ := cur_pick h s1 (a := a1) (n := 16) (by omega) (by omega) (by omega) (by omega)
 by_cases c : r2 = 0
 · obtain ⟨r3, a3, s3, e3, hm, hc, hc'⟩ := cur_among h s2 (a := a2) [0, (-1), 1, 10000, 10001, 4611686018427387904] (by omega) (by omega) (by simp) (by simp)
   refine ⟨r ++ [r3], a3, s3, Ev.bind e1 (Ev.bindc e2 (Ev.pos c (Ev.bindc e3 (Ev.pos (by show r.length < _; omega) (Ev.val rfl))))), by simp; omega, fun hg => ?_, by omega, by omega⟩
   have := (piGood_sum hg).2.1 r3 (by simp)
   rw [List.sum_append]; simp; omega
 by_cases c2 : r2 = 1
 · obtain ⟨r3, a3, s3, e3, hc0, hc1, hc, hc'⟩ := cur_pick h s2 (a := a2) (n := 6) (by omega) (by omega) (by omega) (by omega)
   refine ⟨rd_L2 [[2, 1], [], [0], [1, 1, 1, 1, 1, 1, 1, 1, 1, 1, 1, 1, 1, 1, 1, 1, 1, 1, 1, 1], [1, 1, 1, 1, 1, 1, 1, 1, 1, 1, 1, 1, 1, 1, 1, 1, 1, 1, 1, 1, 1], [1, 2, 5000, 10000]] r3, a3, s3, Ev.bind e1 (Ev.bindc e2 (Ev.neg c (Ev.pos c2 (Ev.bindc rfl (Ev.bindc e3 (Ev.pos hc0 (Ev.pos (by show r3 < _; simp; omega) (Ev.val rfl)))))))), ?_, ?_, by omega, by omega⟩
   · have : r3 = 0 ∨ r3 = 1 ∨ r3 = 2 ∨ r3 = 3 ∨ r3 = 4 ∨ r3 = 5 := by omega
     rcases this with e | e | e | e | e | e <;> subst e <;> decide
   intro _
   have : r3 = 0 ∨ r3 = 1 ∨ r3 = 2 ∨ r3 = 3 ∨ r3 = 4 ∨ r3 = 5 := by omega
   rcases this with e | e | e | e | e | e <;> subst e <;> decide
 exact ⟨r, a2, s2, Ev.bind e1 (Ev.bindc e2 (Ev.neg c (Ev.neg c2 (Ev.val rfl)))), by omega, fun _ => by omega, by omega, by omega⟩
theorem drawArePieces_ev {l : List Int} (h : BytesL l) : ∃ r, Ev (fun k => spec_DrawArePieces.f k l) r ∧ r.length ≤ 30 := by
 obtain ⟨r, a, t, e, hl, _, _, _⟩ := cur_pieces h (a := 0) 0 (by omega) (by omega)
 refine ⟨r, ?_, hl⟩
 unfold spec_DrawArePieces.f spec_DrawArePieces_in.f
 exact Ev.bind (Ev.bind e (Ev.now _)) (Ev.now _)
theorem cur_total_l {l : List Int} (h : BytesL l) : ∀ (s p : List Int) (x : Int), p.length + s.length ≤ 1000 → ∀ {a : Int} (t : Int), 0 ≤ a → a + 2 * (s.length : Int) ≤ 800000000000 → ∃ r a' t', Ev (fun k => spec_l1Cur_total.l0 k x (p ++ s) ((p ++ s).length : Int) (p.length : Int) l a t) (r, a', t')
 | [], p, x, hp, a, t, h0, h1 => ⟨x, a, t, Ev.step (f := fun _ => some (x, a, t)) (fun k => by rw [spec_l1Cur_total.l0, if_neg (by simp)]) (Ev.val rfl)⟩
 | y :: s, p, x, hp, a, t, h0, h1 => by
  simp only [List.length_cons] at hp h1
  obtain ⟨r1, a1, s1, e1, ha, ha'⟩ := cur_one h t (a := a) (n := 2) (by omega) (by omega) (by omega) (by omega)
  have ew : wrap64 ((p.length : Int) + 1) = ((p ++ [y]).length : Int) := by rw [w64 (by omega) (by omega)]; simp
  obtain ⟨r2, a2, s2, e2⟩ := cur_total_l h s (p ++ [y]) (if r1 = true then wrap64 (x + y) else x) (by simp; omega) (a := a1) s1 (by omega) (by omega)
  refine ⟨r2, a2, s2, Ev.step (fun k => ?_) e2⟩
  rw [spec_l1Cur_total.l0, if_pos (by simp <;> omega), if_pos (by omega), if_pos (by simp <;> omega), e1, Option.bind_some, rd_app, ew]
  simp only [List.append_assoc, List.singleton_append]
  split <;> rfl
theorem cur_total {l : List Int} (h : BytesL l) (m : List Int) (hm : m.length ≤ 30) (hs : piGoodB m = true → m.sum ≤ 20000) {a : Int} (s : Int) (h0 : 0 ≤ a) (h1 : a ≤ 600000000000) : ∃ r a' t, Ev (fun k => spec_l1Cur_total.f k l a s m) (r, a', t) := by
 unfold spec_l1Cur_total.f
 obtain ⟨r1, a1, s1, e1, ha, ha'⟩ := cur_one h s (a := a) (n := 12) (by omega) (by omega) (by omega) (by omega)
 by_cases c : r1 = true
 · obtain ⟨r3, a3, s3, e3, hm, hc, hc'⟩ := cur_among h s1 (a := a1) [(-1), 0, 200000, 200001, 4611686018427387904] (by omega) (by omega) (by simp) (by simp)
   exact ⟨_, _, _, Ev.bindc e1 (Ev.pos c (Ev.bindc e3 (Ev.val rfl)))⟩
 by_cases g : piGoodB m = true
 · obtain ⟨r3, a3, s3, e3, hc, hc'⟩ := cur_one h s1 (a := a1) (n := 3) (by omega) (by omega) (by omega) (by omega)
   have hg := piGood_sum g
   by_cases d : r3 = true
   · have := hs g
     obtain ⟨r4, a4, s4, e4, _, _, _, _⟩ := cur_pick h s3 (a := a3) (n := m.sum + 2) (by omega) (by omega) (by omega) (by omega)
     exact ⟨_, _, _, Ev.bindc e1 (Ev.neg c (Ev.bind (spec_piGood.ev m (by omega)) (Ev.pos g (Ev.bindc e3 (Ev.pos d (Ev.bind (spec_piSum.ev m (by omega) (fun x hx => by have := (hg.2.1 x hx).1; omega) (by omega)) (Ev.bindc (by rw [w64 (n := m.sum + 2) (by omega) (by omega)]; exact e4) (Ev.val rfl))))))))⟩
   obtain ⟨r4, a4, s4, e4⟩ := cur_total_l h m [] 0 (by simp; omega) (a := a3) s3 (by omega) (by omega)
   exact ⟨_, _, _, Ev.bindc e1 (Ev.neg c (Ev.bind (spec_piGood.ev m (by omega)) (Ev.pos g (Ev.bindc e3 (Ev.neg d e4)))))⟩
 obtain ⟨r4, a4, s4, e4, _, _, _, _⟩ := cur_pick h s1 (a := a1) (n := 20) (by omega) (by omega) (by omega) (by omega)
 exact ⟨_, _, _, Ev.bindc e1 (Ev.neg c (Ev.bind (spec_piGood.ev m (by omega)) (Ev.neg g (Ev.bindc e4 (Ev.val rfl)))))⟩
theorem drawCanMake_ev {l : List Int} (h : BytesL l) : ∃ r s, Ev (fun k => spec_DrawCanMake.f k l) (r, s) ∧ r.length ≤ 30 := by
 obtain ⟨r, a, t, e, hl, hs, ha, ha'⟩ := cur_pieces h (a := 0) 0 (by omega) (by omega)
 obtain ⟨r2, a2, t2, e2⟩ := cur_total h r hl hs (a := a) t (by omega) (by omega)
 refine ⟨r, r2, ?_, hl⟩
 unfold spec_DrawCanMake.f
 exact Ev.bind e (Ev.bind e2 (Ev.now _))
theorem cnt_sym (l : List Int) : ∀ s, cnt l (l.sum - s) = cnt l s := by
 induction l with
 | nil => intro s; simp only [cnt, List.sum_nil]; by_cases h : s = 0 <;> simp [h]
 | cons x t ih =>
  intro s
  rw [List.sum_cons, cnt, cnt, show x + t.sum - s = t.sum - (s - x) by omega, ih, show t.sum - (s - x) - x = t.sum - s by omega, ih]
  omega
theorem cnt_zero (l : List Int) (h1 : ∀ x ∈ l, 1 ≤ x) : cnt l 0 = 1 := by
 induction l with
 | nil => rfl
 | cons x t ih =>
  have hx := h1 x (by simp)
  have ht : ∀ y ∈ t, 1 ≤ y := fun y hy => h1 y (by simp [hy])
  rw [cnt, ih ht, cnt_neg t (fun y hy => by have := ht y hy; omega) _ (by omega)]; omega
theorem cnt_all (l : List Int) (h1 : ∀ x ∈ l, 1 ≤ x) : cnt l l.sum = 1 := by
 have := cnt_sym l 0
 rw [Int.sub_zero] at this
 rw [this, cnt_zero l h1]
theorem cnt_range {l : List Int} (h1 : ∀ x ∈ l, 1 ≤ x) {s : Int} (h : 0 < cnt l s) : 0 ≤ s ∧ s ≤ l.sum := by
 have h0 : ∀ x ∈ l, 0 ≤ x := fun x hx => by have := h1 x hx; omega
 constructor
 · rcases Int.lt_or_le s 0 with c | c
   · rw [cnt_neg l h0 s c] at h; omega
   exact c
 rcases Int.lt_or_le l.sum s with c | c
 · rw [cnt_above l h0 s c] at h; omega
 exact c
/-- Numbers in order. -/
def rg (i d : Nat) : List Int := (List.range' i d).map fun (j : Nat) => (j : Int)
theorem rg_succ (i d : Nat) : rg i (d + 1) = (i : Int) :: rg (i + 1) d := by simp [rg, List.range'_succ]
theorem rg_snoc (i d : Nat) : rg i (d + 1) = rg i d ++ [((i + d : Nat) : Int)] := by simp [rg, List.range'_1_concat]
theorem rg_length (i d : Nat) : (rg i d).length = d := by simp [rg]
theorem mem_rg {i d : Nat} {x : Int} : x ∈ rg i d ↔ (i : Int) ≤ x ∧ x < (i : Int) + d := by
 unfold rg
 simp only [List.mem_map, List.mem_range'_1]
 constructor
 · rintro ⟨j, hj, rfl⟩; omega
 intro h; exact ⟨x.toNat, by omega, by omega⟩
theorem rg_rises : ∀ (d i : Nat), (rg i d).Pairwise (fun x y => x < y)
 | 0, i => by simp [rg]
 | d + 1, i => by
  rw [rg_succ, List.pairwise_cons]
  exact ⟨fun y hy => by have := (mem_rg.1 hy).1; omega, rg_rises d (i + 1)⟩
/-- All sums. -/
def sumsL (l : List Int) : List Int := (rg 0 (l.sum.toNat + 1)).filter fun s => decide (0 < cnt l s)
/-- All numbers up to the sum of all that are none. -/
def gapsL (l : List Int) : List Int := (rg 0 (l.sum.toNat + 1)).filter fun s => decide (cnt l s = 0)
theorem mem_sumsL {l : List Int} (h1 : ∀ x ∈ l, 1 ≤ x) {s : Int} : s ∈ sumsL l ↔ 0 < cnt l s := by
 unfold sumsL
 rw [List.mem_filter, decide_eq_true_eq, mem_rg]
 refine ⟨fun h => h.2, fun h => ⟨?_, h⟩⟩
 have := cnt_range h1 h; omega
theorem mem_gapsL {l : List Int} (h1 : ∀ x ∈ l, 1 ≤ x) {s : Int} : s ∈ gapsL l ↔ cnt l s = 0 ∧ 0 ≤ s ∧ s ≤ l.sum := by
 unfold gapsL
 have := sum_nonneg l (fun x hx => by have := h1 x hx; omega)
 rw [List.mem_filter, decide_eq_true_eq, mem_rg]
 constructor
 · rintro ⟨⟨h1, h2⟩, h3⟩; exact ⟨h3, by omega, by omega⟩
 rintro ⟨h1, h2, h3⟩; exact ⟨⟨by omega, by omega⟩, h1⟩
theorem sumsL_rises (l : List Int) : (sumsL l).Pairwise (fun x y => x < y) := (rg_rises _ _).filter _
theorem gapsL_rises (l : List Int) : (gapsL l).Pairwise (fun x y => x < y) := (rg_rises _ _).filter _
theorem sumsL_le (l : List Int) : (sumsL l).length ≤ l.sum.toNat + 1 := by
 have := List.length_filter_le (fun s => decide (0 < cnt l s)) (rg 0 (l.sum.toNat + 1))
 rw [rg_length] at this; exact this
theorem gapsL_le (l : List Int) : (gapsL l).length ≤ l.sum.toNat + 1 := by
 have := List.length_filter_le (fun s => decide (cnt l s = 0)) (rg 0 (l.sum.toNat + 1))
 rw [rg_length] at this; exact this
theorem sums_gaps (l : List Int) : (sumsL l).length + (gapsL l).length = l.sum.toNat + 1 := by
 have key : ∀ m : List Int, (m.filter fun s => decide (0 < cnt l s)).length + (m.filter fun s => decide (cnt l s = 0)).length = m.length := by
  intro m
  induction m with
  | nil => rfl
  | cons x m ih =>
   have h := cnt_nonneg l x
   by_cases c : cnt l x = 0
   · rw [List.filter_cons_of_neg (by simp; omega), List.filter_cons_of_pos (by simpa using c)]
     simp only [List.length_cons]; omega
   rw [List.filter_cons_of_pos (by simp; omega), List.filter_cons_of_neg (by simpa using c)]
   simp only [List.length_cons]; omega
 have := key (rg 0 (l.sum.toNat + 1))
 rw [rg_length] at this; exact this
theorem sumsL_head {l : List Int} (h1 : ∀ x ∈ l, 1 ≤ x) : ∃ r, sumsL l = 0 :: r := by
 unfold sumsL
 rw [rg_succ, List.filter_cons_of_pos (by simp [cnt_zero l h1])]
 exact ⟨_, rfl⟩
theorem sumsL_last {l : List Int} (h1 : ∀ x ∈ l, 1 ≤ x) : ∃ r, sumsL l = r ++ [l.sum] := by
 have hs := sum_nonneg l (fun x hx => by have := h1 x hx; omega)
 unfold sumsL
 rw [rg_snoc, List.filter_append, List.filter_cons_of_pos (by
  simp only [Nat.zero_add, decide_eq_true_eq]
  rw [Int.toNat_of_nonneg hs, cnt_all l h1]; omega)]
 exact ⟨_, by simp only [Nat.zero_add, List.filter_nil]; rw [Int.toNat_of_nonneg hs]⟩
theorem gaps_sym {l : List Int} (h1 : ∀ x ∈ l, 1 ≤ x) {s : Int} (h : s ∈ gapsL l) : l.sum - s ∈ gapsL l := by
 rw [mem_gapsL h1] at h ⊢
 rw [cnt_sym]; exact ⟨h.1, by omega, by omega⟩
/-! ### The run -/
theorem cnt_below (a b : List Int) (r : Int) (hr : 0 ≤ r) (hb : ∀ x ∈ b, r < x) (h0 : ∀ x ∈ a, 0 ≤ x) : ∀ s, s ≤ r → cnt (a ++ b) s = cnt a s := by
 induction b generalizing a with
 | nil => intro s _; simp
 | cons x b ih =>
  intro s hs
  have hx := hb x (by simp)
  rw [show a ++ x :: b = (a ++ [x]) ++ b by simp, ih (a ++ [x]) (fun y hy => hb y (by simp [hy])) (fun y hy => by
   rcases List.mem_append.1 hy with e | e
   · exact h0 y e
   rw [List.mem_singleton.1 e]; omega) s hs, cnt_snoc, cnt_neg a h0 (s - x) (by omega)]; omega
theorem run_ok : ∀ (t a : List Int), t.Pairwise (fun x y => x ≤ y) → (∀ x ∈ t, 1 ≤ x) → (∀ x ∈ a, 1 ≤ x) → (∀ s, 0 ≤ s → s ≤ a.sum → 0 < cnt a s) → a.sum ≤ runL t a.sum ∧ runL t a.sum ≤ (a ++ t).sum ∧ (∀ s, 0 ≤ s → s ≤ runL t a.sum → 0 < cnt (a ++ t) s) ∧ (runL t a.sum < (a ++ t).sum → cnt (a ++ t) (runL t a.sum + 1) = 0)
 | [], a, _, _, _, hP => ⟨by simp [runL], by simp [runL], by simpa [runL] using hP, by simp [runL]⟩
 | x :: t, a, hs, ht, ha, hP => by
  have ha0 : ∀ x ∈ a, 0 ≤ x := fun x hx => by have := ha x hx; omega
  have hx := ht x (by simp)
  have hsa := sum_nonneg a ha0
  have hst := sum_nonneg t (fun y hy => by have := ht y (by simp [hy]); omega)
  rw [List.pairwise_cons] at hs
  rw [runL]
  by_cases c : x > a.sum + 1
  · rw [if_pos c]
    have hb := cnt_below a (x :: t) (a.sum + 1) (by omega) (fun y hy => by
     rcases List.mem_cons.1 hy with e | e
     · omega
     have := hs.1 y e; omega) ha0
    refine ⟨by omega, by rw [List.sum_append, List.sum_cons]; omega, fun s h0 h1 => ?_, fun _ => ?_⟩
    · rw [hb s (by omega)]; exact hP s h0 h1
    rw [hb _ (by omega)]; exact cnt_above a ha0 _ (by omega)
  rw [if_neg c]
  have e : (a ++ [x]).sum = a.sum + x := by rw [List.sum_append]; simp
  have h := run_ok t (a ++ [x]) hs.2 (fun y hy => ht y (by simp [hy])) (fun y hy => by
   rcases List.mem_append.1 hy with q | q
   · exact ha y q
   · rw [List.mem_singleton.1 q]; omega) (fun s h0 h1 => by
   rw [e] at h1
   rw [cnt_snoc]
   have n1 := cnt_nonneg a s
   have n2 := cnt_nonneg a (s - x)
   by_cases d : s ≤ a.sum
   · have := hP s h0 d; omega
   have := hP (s - x) (by omega) (by omega); omega)
  rw [e, List.append_assoc, List.singleton_append] at h
  exact ⟨by omega, h.2.1, h.2.2.1, h.2.2.2⟩
theorem run_facts {l : List Int} (h : piGoodB l = true) : 0 ≤ runL l 0 ∧ runL l 0 ≤ l.sum ∧ (∀ s, 0 ≤ s → s ≤ runL l 0 → 0 < cnt l s) ∧ (runL l 0 < l.sum → cnt l (runL l 0 + 1) = 0) := by
 have hg := piGood_sum h
 have := run_ok l [] hg.2.2.1 (fun x hx => (hg.2.1 x hx).1) (by simp) (fun s h0 h1 => by
  simp at h1
  have : s = 0 := by omega
  subst this; decide)
 simpa using this
theorem gaps_head {l : List Int} (h : piGoodB l = true) : (gapsL l = [] ∧ runL l 0 = l.sum) ∨ ∃ r, gapsL l = (runL l 0 + 1) :: r := by
 have hg := piGood_sum h
 have h1 : ∀ x ∈ l, 1 ≤ x := fun x hx => (hg.2.1 x hx).1
 have hr := run_facts h
 by_cases c : runL l 0 < l.sum
 · right
   have hm : runL l 0 + 1 ∈ gapsL l := (mem_gapsL h1).2 ⟨hr.2.2.2 c, by omega, by omega⟩
   have hp := gapsL_rises l
   cases e : gapsL l with
   | nil => rw [e] at hm; cases hm
   | cons y r =>
    rw [e] at hm hp
    rw [List.pairwise_cons] at hp
    have hy : y ∈ gapsL l := by rw [e]; simp
    rw [mem_gapsL h1] at hy
    rcases List.mem_cons.1 hm with q | q
    · exact ⟨r, by rw [q]⟩
    exfalso
    have := hp.1 _ q
    have := hr.2.2.1 y hy.2.1 (by omega)
    omega
 left
 have e : runL l 0 = l.sum := by omega
 refine ⟨?_, e⟩
 apply List.eq_nil_iff_forall_not_mem.2
 intro y hy
 rw [mem_gapsL h1] at hy
 have := hr.2.2.1 y hy.2.1 (by omega)
 omega
theorem impl_sums.ev_l (f : Int → Int) (N : Nat) (hN : N ≤ 1000000001) : ∀ (d i : Nat) (acc : List Int), i + d = N → acc.length ≤ i → Ev (fun k => impl_sums.l0 k acc (tab N f) (N : Int) (i : Int)) (acc ++ (rg i d).filter fun s => decide (0 < f s))
 | 0, i, acc, h, ha => Ev.step (f := fun _ => some acc) (fun k => by rw [impl_sums.l0, if_neg (by omega)]) (Ev.val (by simp [rg]))
 | d + 1, i, acc, h, ha => by
  have ew : wrap64 ((i : Int) + 1) = ((i + 1 : Nat) : Int) := by rw [w64 (by omega) (by omega)]; omega
  by_cases c : 0 < f (i : Int)
  · have ih := impl_sums.ev_l f N hN d (i + 1) (acc ++ [(i : Int)]) (by omega) (by simp; omega)
    refine Ev.step (f := fun k => impl_sums.l0 k (acc ++ [(i : Int)]) (tab N f) (N : Int) ((i + 1 : Nat) : Int)) (fun k => ?_) (Ev.eq ih ?_)
    · rw [impl_sums.l0, if_pos (by omega), if_pos (by omega), if_pos (by rw [tab_length]; omega), rd_tab _ _ _ (by omega) (by omega), if_pos c, if_pos (by omega), ew]
    rw [rg_succ, List.filter_cons_of_pos (by simpa using c)]; simp
  have ih := impl_sums.ev_l f N hN d (i + 1) acc (by omega) (by omega)
  refine Ev.step (f := fun k => impl_sums.l0 k acc (tab N f) (N : Int) ((i + 1 : Nat) : Int)) (fun k => ?_) (Ev.eq ih ?_)
  · rw [impl_sums.l0, if_pos (by omega), if_pos (by omega), if_pos (by rw [tab_length]; omega), rd_tab _ _ _ (by omega) (by omega), if_neg c, ew]
  rw [rg_succ, List.filter_cons_of_neg (by simpa using c)]
theorem impl_sums.ev (l : List Int) (hl : l.length ≤ 20) (h1 : ∀ x ∈ l, 1 ≤ x) (hs : l.sum ≤ 1000000000) : Ev (fun k => impl_sums.f k l) (sumsL l) := by
 have h0 := sum_nonneg l (fun x hx => by have := h1 x hx; omega)
 unfold impl_sums.f
 refine Ev.bind (impl_ways.ev l hl h1 hs) ?_
 rw [tab_length]
 exact impl_sums.ev_l (cnt l) (l.sum.toNat + 1) (by omega) (l.sum.toNat + 1) 0 [] (by omega) (by simp)
theorem spec_piSums.ev_l (f : Int → Int) (N : Nat) (hN : N ≤ 1000000001) : ∀ (d i : Nat) (acc : List Int), i + d = N → acc.length ≤ i → Ev (fun k => spec_piSums.l0 k acc (tab N f) (N : Int) (i : Int)) (acc ++ (rg i d).filter fun s => decide (0 < f s))
 | 0, i, acc, h, ha => Ev.step (f := fun _ => some acc) (fun k => by rw [spec_piSums.l0, if_neg (by omega)]) (Ev.val (by simp [rg]))
 | d + 1, i, acc, h, ha => by
  have ew : wrap64 ((i : Int) + 1) = ((i + 1 : Nat) : Int) := by rw [w64 (by omega) (by omega)]; omega
  by_cases c : 0 < f (i : Int)
  · have ih := spec_piSums.ev_l f N hN d (i + 1) (acc ++ [(i : Int)]) (by omega) (by simp; omega)
    refine Ev.step (f := fun k => spec_piSums.l0 k (acc ++ [(i : Int)]) (tab N f) (N : Int) ((i + 1 : Nat) : Int)) (fun k => ?_) (Ev.eq ih ?_)
    · rw [spec_piSums.l0, if_pos (by omega), if_pos (by omega), if_pos (by rw [tab_length]; omega), rd_tab _ _ _ (by omega) (by omega), if_pos c, if_pos (by omega), ew]
    rw [rg_succ, List.filter_cons_of_pos (by simpa using c)]; simp
  have ih := spec_piSums.ev_l f N hN d (i + 1) acc (by omega) (by omega)
  refine Ev.step (f := fun k => spec_piSums.l0 k acc (tab N f) (N : Int) ((i + 1 : Nat) : Int)) (fun k => ?_) (Ev.eq ih ?_)
  · rw [spec_piSums.l0, if_pos (by omega), if_pos (by omega), if_pos (by rw [tab_length]; omega), rd_tab _ _ _ (by omega) (by omega), if_neg c, ew]
  rw [rg_succ, List.filter_cons_of_neg (by simpa using c)]
theorem spec_piSums.ev (l : List Int) (hl : l.length ≤ 20) (h1 : ∀ x ∈ l, 1 ≤ x) (hs : l.sum ≤ 1000000000) : Ev (fun k => spec_piSums.f k l) (sumsL l) := by
 have h0 := sum_nonneg l (fun x hx => by have := h1 x hx; omega)
 unfold spec_piSums.f
 refine Ev.bind (spec_piWays.ev l hl h1 hs) ?_
 rw [tab_length]
 exact spec_piSums.ev_l (cnt l) (l.sum.toNat + 1) (by omega) (l.sum.toNat + 1) 0 [] (by omega) (by simp)
theorem impl_SumsOf.ev (l : List Int) (hl : l.length ≤ 9223372036854775806) : Ev (fun k => impl_SumsOf.f k l) (if piGoodB l = true ∧ l.length ≤ 12 then (sumsL l, true) else ([], false)) := by
 unfold impl_SumsOf.f
 refine Ev.bind (impl_ArePieces.ev l hl) (Ev.ite (fun c => Ev.ite (fun d => Ev.val ?_) (fun d => ?_)) (fun c => Ev.val ?_))
 · rw [if_neg (by omega)]
 · have hg := piGood_sum c
   exact Ev.bind (impl_sums.ev l hg.1 (fun x hx => (hg.2.1 x hx).1) (by omega)) (Ev.val (by rw [if_pos ⟨c, by omega⟩]))
 rw [if_neg (fun h => c h.1)]
theorem spec_SumsOf.ev (l : List Int) (hl : l.length ≤ 9223372036854775806) : Ev (fun k => spec_SumsOf.f k l) (if piGoodB l = true ∧ l.length ≤ 12 then (sumsL l, true) else ([], false)) := by
 unfold spec_SumsOf.f
 refine Ev.bind (spec_piGood.ev l hl) (Ev.ite (fun c => Ev.ite (fun d => Ev.val ?_) (fun d => ?_)) (fun c => Ev.val ?_))
 · rw [if_neg (by omega)]
 · have hg := piGood_sum c
   exact Ev.bind (spec_piSums.ev l hg.1 (fun x hx => (hg.2.1 x hx).1) (by omega)) (Ev.val (by rw [if_pos ⟨c, by omega⟩]))
 rw [if_neg (fun h => c h.1)]
theorem impl_CountSums.ev (l : List Int) (hl : l.length ≤ 9223372036854775806) : Ev (fun k => impl_CountSums.f k l) (if piGoodB l = true then (((sumsL l).length : Int), true) else (0, false)) := by
 unfold impl_CountSums.f
 refine Ev.bind (impl_ArePieces.ev l hl) (Ev.ite (fun c => ?_) (fun c => Ev.val (by rw [if_neg c])))
 have hg := piGood_sum c
 exact Ev.bind (impl_sums.ev l hg.1 (fun x hx => (hg.2.1 x hx).1) (by omega)) (Ev.val (by rw [if_pos c]))
theorem spec_CountSums.ev (l : List Int) (hl : l.length ≤ 9223372036854775806) : Ev (fun k => spec_CountSums.f k l) (if piGoodB l = true then (((sumsL l).length : Int), true) else (0, false)) := by
 unfold spec_CountSums.f
 refine Ev.bind (spec_piGood.ev l hl) (Ev.ite (fun c => ?_) (fun c => Ev.val (by rw [if_neg c])))
 have hg := piGood_sum c
 exact Ev.bind (spec_piSums.ev l hg.1 (fun x hx => (hg.2.1 x hx).1) (by omega)) (Ev.val (by rw [if_pos c]))
theorem impl_RunOf.evS (l : List Int) (hl : l.length ≤ 9223372036854775806) : Ev (fun k => impl_RunOf.f k l) (if piGoodB l = true then (runL l 0, true) else (0, false)) := by
 unfold impl_RunOf.f
 refine Ev.bind (impl_ArePieces.ev l hl) (Ev.ite (fun c => ?_) (fun c => Ev.val (by rw [if_neg c])))
 have hg := piGood_sum c
 exact Ev.bind (impl_run.ev l (by omega) (fun x hx => by have := (hg.2.1 x hx).1; omega) (by omega)) (Ev.val (by rw [if_pos c]))
theorem spec_RunOf.evS (l : List Int) (hl : l.length ≤ 9223372036854775806) : Ev (fun k => spec_RunOf.f k l) (if piGoodB l = true then (runL l 0, true) else (0, false)) := by
 unfold spec_RunOf.f
 refine Ev.bind (spec_piGood.ev l hl) (Ev.ite (fun c => ?_) (fun c => Ev.val (by rw [if_neg c])))
 have hg := piGood_sum c
 exact Ev.bind (spec_piRun.ev l (by omega) (fun x hx => by have := (hg.2.1 x hx).1; omega) (by omega)) (Ev.val (by rw [if_pos c]))
theorem impl_SumOfPieces.ev (l : List Int) (hl : l.length ≤ 9223372036854775806) : Ev (fun k => impl_SumOfPieces.f k l) (if piGoodB l = true then (l.sum, true) else (0, false)) := by
 unfold impl_SumOfPieces.f
 refine Ev.bind (impl_ArePieces.ev l hl) (Ev.ite (fun c => ?_) (fun c => Ev.val (by rw [if_neg c])))
 have hg := piGood_sum c
 exact Ev.bind (impl_total.ev l (by omega) (fun x hx => by have := (hg.2.1 x hx).1; omega) (by omega)) (Ev.val (by rw [if_pos c]))
theorem spec_SumOfPieces.ev (l : List Int) (hl : l.length ≤ 9223372036854775806) : Ev (fun k => spec_SumOfPieces.f k l) (if piGoodB l = true then (l.sum, true) else (0, false)) := by
 unfold spec_SumOfPieces.f
 refine Ev.bind (spec_piGood.ev l hl) (Ev.ite (fun c => ?_) (fun c => Ev.val (by rw [if_neg c])))
 have hg := piGood_sum c
 exact Ev.bind (spec_piSum.ev l (by omega) (fun x hx => by have := (hg.2.1 x hx).1; omega) (by omega)) (Ev.val (by rw [if_pos c]))
/-- A table of N truths. -/
def tabB (N : Nat) (f : Int → Bool) : List Bool := (List.range N).map fun (i : Nat) => f (i : Int)
theorem tabB_length (N : Nat) (f : Int → Bool) : (tabB N f).length = N := by simp [tabB]
theorem rd_tabB (N : Nat) (f : Int → Bool) (i : Int) (h0 : 0 ≤ i) (h1 : i < N) : rdOf false (tabB N f) i = f i := by
 obtain ⟨n, rfl⟩ := Int.eq_ofNat_of_zero_le h0
 have hn : n < N := by omega
 simp [rdOf, tabB, List.getD_eq_getElem?_getD, hn]
theorem tabB_congr (N : Nat) (f g : Int → Bool) (h : ∀ i : Int, 0 ≤ i → i < N → f i = g i) : tabB N f = tabB N g := by
 unfold tabB
 apply List.map_congr_left
 intro i hi
 exact h i (by omega) (by have := List.mem_range.1 hi; omega)
theorem tabB_set (N : Nat) (f : Int → Bool) (i : Int) (v : Bool) (h0 : 0 ≤ i) : (tabB N f).set i.toNat v = tabB N (fun j => if j = i then v else f j) := by
 obtain ⟨n, rfl⟩ := Int.eq_ofNat_of_zero_le h0
 apply List.ext_getElem?
 intro j
 unfold tabB
 by_cases hj : j < N
 · by_cases e : n = j
   · subst e; simp [hj]
   rw [List.getElem?_set_ne (by simpa using e)]
   simp [hj]
   omega
 rw [List.getElem?_eq_none (by simp; omega), List.getElem?_eq_none (by simp; omega)]
theorem tabB_rep (N : Nat) (b : Bool) : List.replicate N b = tabB N (fun _ => b) := by
 apply List.ext_getElem
 · simp [tabB]
 intro i h1 h2; simp [tabB]
theorem impl_missing.ev_l (f : Int → Bool) (N : Nat) (hN : N ≤ 1000000001) : ∀ (d i : Nat) (acc : List Int), i + d = N → acc.length ≤ 1000 → Ev (fun k => impl_missing.l0 k acc (tabB N f) (N : Int) (i : Int)) (if (acc ++ (rg i d).filter fun s => !f s).length ≤ 1000 then (acc ++ (rg i d).filter (fun s => !f s), true) else ([], false))
 | 0, i, acc, h, ha => Ev.step (f := fun _ => some (acc, true)) (fun k => by rw [impl_missing.l0, if_neg (by omega)]) (Ev.val (by simp [rg, ha]))
 | d + 1, i, acc, h, ha => by
  have ew : wrap64 ((i : Int) + 1) = ((i + 1 : Nat) : Int) := by rw [w64 (by omega) (by omega)]; omega
  cases c : f (i : Int) with
  | true =>
   have ih := impl_missing.ev_l f N hN d (i + 1) acc (by omega) ha
   refine Ev.step (f := fun k => impl_missing.l0 k acc (tabB N f) (N : Int) ((i + 1 : Nat) : Int)) (fun k => ?_) (Ev.eq ih ?_)
   · rw [impl_missing.l0, if_pos (by omega), if_pos (by omega), if_pos (by rw [tabB_length]; omega), rd_tabB _ _ _ (by omega) (by omega), if_pos c, ew]
   rw [rg_succ, List.filter_cons_of_neg (by simp [c])]
  | false =>
   rw [rg_succ, List.filter_cons_of_pos (by simp [c])]
   by_cases e : acc.length = 1000
   · refine Ev.step (f := fun k => some ([], false)) (fun k => ?_) (Ev.val ?_)
     · rw [impl_missing.l0, if_pos (by omega), if_pos (by omega), if_pos (by rw [tabB_length]; omega), rd_tabB _ _ _ (by omega) (by omega), if_neg (by simp [c]), if_pos (by omega)]
     rw [if_neg (by simp; omega)]
   have ih := impl_missing.ev_l f N hN d (i + 1) (acc ++ [(i : Int)]) (by omega) (by simp; omega)
   refine Ev.step (f := fun k => impl_missing.l0 k (acc ++ [(i : Int)]) (tabB N f) (N : Int) ((i + 1 : Nat) : Int)) (fun k => ?_) (Ev.eq ih ?_)
   · rw [impl_missing.l0, if_pos (by omega), if_pos (by omega), if_pos (by rw [tabB_length]; omega), rd_tabB _ _ _ (by omega) (by omega), if_neg (by simp [c]), if_neg (by omega), if_pos (by omega), ew]
   simp only [List.append_assoc, List.singleton_append]
theorem impl_missing.ev (f : Int → Bool) (N : Nat) (hN : N ≤ 1000000001) : Ev (fun k => impl_missing.f k (tabB N f)) (if ((rg 0 N).filter fun s => !f s).length ≤ 1000 then ((rg 0 N).filter (fun s => !f s), true) else ([], false)) := by
 unfold impl_missing.f
 rw [tabB_length]
 have := impl_missing.ev_l f N hN N 0 [] (by omega) (by simp)
 simpa using this
def gapsB (l : List Int) : List Int × Bool := if piGoodB l = true ∧ (gapsL l).length ≤ 1000 then (gapsL l, true) else ([], false)
theorem impl_GapsOf.ev_l (N : Nat) (hN : N ≤ 1000000001) {R : List Int × Bool} : ∀ (s p : List Int) (f : Int → Bool), (p ++ s).length ≤ 1000000001 → (∀ x ∈ s, 0 ≤ x ∧ x < N) → Ev (fun k => impl_missing.f k (tabB N fun j => f j || decide (j ∈ s))) R → Ev (fun k => impl_GapsOf.l0 k (tabB N f) (p ++ s) ((p ++ s).length : Int) (p.length : Int)) R
 | [], p, f, hp, hs, hR => by
  refine Ev.step (f := fun k => (impl_missing.f k (tabB N f)).bind fun bt311 => some (bt311.1, bt311.2)) (fun k => by rw [impl_GapsOf.l0, if_neg (by simp)]) ?_
  have e : (tabB N fun j => f j || decide (j ∈ ([] : List Int))) = tabB N f := tabB_congr _ _ _ (fun i _ _ => by simp)
  rw [e] at hR
  exact Ev.bind hR (Ev.val rfl)
 | x :: s, p, f, hp, hs, hR => by
  have hx := hs x (by simp)
  have hpl : p.length + s.length + 1 ≤ 1000000001 := by simpa [Nat.add_assoc] using hp
  have ew : wrap64 ((p.length : Int) + 1) = ((p ++ [x]).length : Int) := by rw [w64 (by omega) (by omega)]; simp
  have ih := impl_GapsOf.ev_l N hN (R := R) s (p ++ [x]) (fun j => if j = x then true else f j) (by simpa using hp) (fun y hy => hs y (by simp [hy])) (by
   refine Ev.congr (fun k => ?_) hR
   congr 1
   refine tabB_congr _ _ _ (fun i _ _ => ?_)
   by_cases e : i = x
   · simp [e]
   simp [e])
  refine Ev.step (fun k => ?_) ih
  rw [impl_GapsOf.l0, if_pos (by simp <;> omega), if_pos (by omega), if_pos (by simp <;> omega), rd_app, if_pos hx.1, if_pos (by rw [tabB_length]; exact hx.2), tabB_set _ _ _ _ hx.1, ew]
  simp only [List.append_assoc, List.singleton_append]
theorem impl_GapsOf.ev (l : List Int) (hl : l.length ≤ 9223372036854775806) : Ev (fun k => impl_GapsOf.f k l) (gapsB l) := by
 unfold impl_GapsOf.f
 refine Ev.bind (impl_ArePieces.ev l hl) (Ev.ite (fun c => ?_) (fun c => Ev.val (by rw [gapsB, if_neg (fun h => c h.1)])))
 have hg := piGood_sum c
 have h1 : ∀ x ∈ l, 1 ≤ x := fun x hx => (hg.2.1 x hx).1
 refine Ev.bind (impl_total.ev l (by omega) (fun x hx => by have := h1 x hx; omega) (by omega)) ?_
 rw [w64 (n := l.sum + 1) (by omega) (by omega)]
 refine Ev.pos (by omega) (Ev.pos (by omega) (Ev.bind (impl_sums.ev l hg.1 h1 (by omega)) ?_))
 have e1 : (l.sum + 1).toNat = l.sum.toNat + 1 := by omega
 rw [e1, tabB_rep]
 have hsl := sumsL_le l
 refine impl_GapsOf.ev_l (l.sum.toNat + 1) (by omega) (sumsL l) [] (fun _ => false) (by simp; omega) (fun x hx => ?_) ?_
 · have := cnt_range h1 ((mem_sumsL h1).1 hx); omega
 have e2 : (tabB (l.sum.toNat + 1) fun j => false || decide (j ∈ sumsL l)) = tabB (l.sum.toNat + 1) fun j => decide (0 < cnt l j) := tabB_congr _ _ _ (fun i _ _ => by
  rw [Bool.false_or, decide_eq_decide]; exact mem_sumsL h1)
 rw [e2]
 have e3 : ((rg 0 (l.sum.toNat + 1)).filter fun s => !decide (0 < cnt l s)) = gapsL l := by
  unfold gapsL
  refine List.filter_congr (fun x _ => ?_)
  have := cnt_nonneg l x
  by_cases q : cnt l x = 0
  · simp [q]
  simp [q]; omega
 have := impl_missing.ev (fun j => decide (0 < cnt l j)) (l.sum.toNat + 1) (by omega)
 rw [e3] at this
 refine Ev.eq this ?_
 unfold gapsB
 by_cases q : (gapsL l).length ≤ 1000
 · rw [if_pos q, if_pos ⟨c, q⟩]
 rw [if_neg q, if_neg (fun h => q h.2)]
theorem spec_GapsOf.ev_l (f : Int → Int) (N : Nat) (hN : N ≤ 1000000001) : ∀ (d i : Nat) (acc : List Int), i + d = N → acc.length ≤ i → Ev (fun k => spec_GapsOf.l0 k acc (tab N f) (N : Int) (i : Int)) (if (acc ++ (rg i d).filter fun s => decide (f s = 0)).length ≤ 1000 then (acc ++ (rg i d).filter (fun s => decide (f s = 0)), true) else ([], false))
 | 0, i, acc, h, ha => by
  refine Ev.step (f := fun _ => if acc.length ≤ 1000 then some (acc, true) else some ([], false)) (fun k => ?_) ?_
  · rw [spec_GapsOf.l0, if_neg (by omega)]
    by_cases q : acc.length ≤ 1000
    · rw [if_pos q, if_neg (by omega)]
    rw [if_neg q, if_pos (by omega)]
  have e : (rg i 0).filter (fun s => decide (f s = 0)) = [] := by simp [rg]
  rw [e, List.append_nil]
  by_cases q : acc.length ≤ 1000
  · rw [if_pos q, if_pos q]; exact Ev.val rfl
  rw [if_neg q, if_neg q]; exact Ev.val rfl
 | d + 1, i, acc, h, ha => by
  have ew : wrap64 ((i : Int) + 1) = ((i + 1 : Nat) : Int) := by rw [w64 (by omega) (by omega)]; omega
  by_cases c : f (i : Int) = 0
  · have ih := spec_GapsOf.ev_l f N hN d (i + 1) (acc ++ [(i : Int)]) (by omega) (by simp; omega)
    refine Ev.step (f := fun k => spec_GapsOf.l0 k (acc ++ [(i : Int)]) (tab N f) (N : Int) ((i + 1 : Nat) : Int)) (fun k => ?_) (Ev.eq ih ?_)
    · rw [spec_GapsOf.l0, if_pos (by omega), if_pos (by omega), if_pos (by rw [tab_length]; omega), rd_tab _ _ _ (by omega) (by omega), if_pos c, if_pos (by omega), ew]
    rw [rg_succ, List.filter_cons_of_pos (by simpa using c)]; simp only [List.append_assoc, List.singleton_append]
  have ih := spec_GapsOf.ev_l f N hN d (i + 1) acc (by omega) (by omega)
  refine Ev.step (f := fun k => spec_GapsOf.l0 k acc (tab N f) (N : Int) ((i + 1 : Nat) : Int)) (fun k => ?_) (Ev.eq ih ?_)
  · rw [spec_GapsOf.l0, if_pos (by omega), if_pos (by omega), if_pos (by rw [tab_length]; omega), rd_tab _ _ _ (by omega) (by omega), if_neg c, ew]
  rw [rg_succ, List.filter_cons_of_neg (by simpa using c)]
theorem spec_GapsOf.ev (l : List Int) (hl : l.length ≤ 9223372036854775806) : Ev (fun k => spec_GapsOf.f k l) (gapsB l) := by
 unfold spec_GapsOf.f
 refine Ev.bind (spec_piGood.ev l hl) (Ev.ite (fun c => ?_) (fun c => Ev.val (by rw [gapsB, if_neg (fun h => c h.1)])))
 have hg := piGood_sum c
 refine Ev.bind (spec_piWays.ev l hg.1 (fun x hx => (hg.2.1 x hx).1) (by omega)) ?_
 rw [tab_length]
 refine Ev.eq (spec_GapsOf.ev_l (cnt l) (l.sum.toNat + 1) (by omega) (l.sum.toNat + 1) 0 [] (by omega) (by simp)) ?_
 rw [List.nil_append]
 show (if (gapsL l).length ≤ 1000 then (gapsL l, true) else ([], false)) = _
 unfold gapsB
 by_cases q : (gapsL l).length ≤ 1000
 · rw [if_pos q, if_pos ⟨c, q⟩]
 rw [if_neg q, if_neg (fun h => q h.2)]
/-- The first way to make a sum that is one. -/
def fstW : List Int → Int → Int → List Int
 | [], _, _ => []
 | p :: t, s, i => if p ≤ s ∧ 0 < cnt t (s - p) then i :: fstW t (s - p) (i + 1) else fstW t s (i + 1)
theorem fstW_zero : ∀ (l : List Int) (i : Int), (∀ x ∈ l, 1 ≤ x) → fstW l 0 i = []
 | [], _, _ => rfl
 | p :: t, i, h => by
  have := h p (by simp)
  rw [fstW, if_neg (by omega)]
  exact fstW_zero t (i + 1) (fun y hy => h y (by simp [hy]))
theorem fstW_in : ∀ (l : List Int) (s i : Int), ∀ x ∈ fstW l s i, i ≤ x ∧ x < i + l.length
 | [], s, i, x, h => by simp [fstW] at h
 | p :: t, s, i, x, h => by
  rw [fstW] at h
  rw [List.length_cons]
  split at h
  · rcases List.mem_cons.1 h with e | e
    · omega
    have := fstW_in t _ _ x e; omega
  have := fstW_in t _ _ x h; omega
theorem fstW_rises : ∀ (l : List Int) (s i : Int), (fstW l s i).Pairwise (fun x y => x < y)
 | [], s, i => by simp [fstW]
 | p :: t, s, i => by
  rw [fstW]
  split
  · rw [List.pairwise_cons]
    exact ⟨fun y hy => by have := fstW_in t _ _ y hy; omega, fstW_rises t _ _⟩
  exact fstW_rises t _ _
theorem fstW_length (l : List Int) (s i : Int) : (fstW l s i).length ≤ l.length := by
 induction l generalizing s i with
 | nil => simp [fstW]
 | cons p t ih =>
  rw [fstW]
  split
  · have := ih (s - p) (i + 1); simp; omega
  have := ih s (i + 1); simp; omega
/-- The sum of pieces at some places. -/
def ofL' (l m : List Int) : Int := (m.map fun i => rd l i).sum
theorem fstW_sum : ∀ (t q : List Int) (s : Int), 0 < cnt t s → (∀ x ∈ t, 1 ≤ x) → ofL' (q ++ t) (fstW t s (q.length : Int)) = s
 | [], q, s, h, _ => by
  unfold cnt at h
  split at h
  · rename_i e; simp [fstW, ofL', e]
  omega
 | p :: t, q, s, h, h1 => by
  have hp := h1 p (by simp)
  have ht : ∀ x ∈ t, 1 ≤ x := fun x hx => h1 x (by simp [hx])
  have el : ((q ++ [p]).length : Int) = (q.length : Int) + 1 := by simp
  rw [fstW]
  by_cases c : p ≤ s ∧ 0 < cnt t (s - p)
  · rw [if_pos c]
    have ih := fstW_sum t (q ++ [p]) (s - p) c.2 ht
    rw [el, List.append_assoc, List.singleton_append] at ih
    unfold ofL' at ih ⊢
    rw [List.map_cons, List.sum_cons, ih, rd_app]; omega
  rw [if_neg c]
  have hc : 0 < cnt t s := by
   rw [cnt] at h
   have n1 := cnt_nonneg t s
   have n2 := cnt_nonneg t (s - p)
   by_cases d : p ≤ s
   · have : ¬ 0 < cnt t (s - p) := fun e => c ⟨d, e⟩
     omega
   rw [cnt_neg t (fun x hx => by have := ht x hx; omega) (s - p) (by omega)] at h; omega
  have ih := fstW_sum t (q ++ [p]) s hc ht
  rw [el, List.append_assoc, List.singleton_append] at ih
  exact ih
theorem laws_tOf.ev_l (l : List Int) (h1 : ∀ x ∈ l, 0 ≤ x ∧ x ≤ 1000000) : ∀ (s p : List Int) (a : Int), p.length + s.length ≤ 1000000 → 0 ≤ a → a ≤ 1000000 * (p.length : Int) → (∀ x ∈ s, 0 ≤ x ∧ x < (l.length : Int)) → Ev (fun k => laws_tOf.l0 k l a (p ++ s) ((p ++ s).length : Int) (p.length : Int)) (a + ofL' l s)
 | [], p, a, hp, h0, ha, hs => Ev.step (f := fun _ => some a) (fun k => by rw [laws_tOf.l0, if_neg (by simp)]) (Ev.val (by simp [ofL']))
 | x :: s, p, a, hp, h0, ha, hs => by
  have hx := hs x (by simp)
  simp only [List.length_cons] at hp
  have hr : 0 ≤ rd l x ∧ rd l x ≤ 1000000 := by
   obtain ⟨n, rfl⟩ := Int.eq_ofNat_of_zero_le hx.1
   rw [rd_eq l n (by omega)]; exact h1 _ (List.getElem_mem _)
  have ew : wrap64 ((p.length : Int) + 1) = ((p ++ [x]).length : Int) := by rw [w64 (by omega) (by omega)]; simp
  have ih := laws_tOf.ev_l l h1 s (p ++ [x]) (a + rd l x) (by simp; omega) (by omega) (by simp; omega) (fun y hy => hs y (by simp [hy]))
  refine Ev.step (f := fun k => laws_tOf.l0 k l (a + rd l x) ((p ++ [x]) ++ s) (((p ++ [x]) ++ s).length : Int) ((p ++ [x]).length : Int)) (fun k => ?_) (Ev.eq ih (by simp [ofL']; omega))
  rw [laws_tOf.l0, if_pos (by simp <;> omega), if_pos (by omega), if_pos (by simp <;> omega), rd_app, if_pos hx.1, if_pos hx.2, if_pos hx.1, w64 (n := a + rd l x) (by omega) (by omega), ew]
  simp only [List.append_assoc, List.singleton_append]
theorem laws_tOf.ev (l m : List Int) (h1 : ∀ x ∈ l, 0 ≤ x ∧ x ≤ 1000000) (hm : m.length ≤ 1000000) (hs : ∀ x ∈ m, 0 ≤ x ∧ x < (l.length : Int)) : Ev (fun k => laws_tOf.f k l m) (ofL' l m) := by
 unfold laws_tOf.f
 exact Ev.eq (laws_tOf.ev_l l h1 m [] 0 (by simpa using hm) (by omega) (by simp) hs) (by omega)
theorem spec_piFirst.ev_l : ∀ (t q : List Int) (s : Int) (acc : List Int), (q ++ t).length ≤ 20 → (∀ x ∈ q ++ t, 1 ≤ x) → (q ++ t).sum ≤ 1000000000 → 0 ≤ s → s ≤ 1000000000 → acc.length ≤ q.length → Ev (fun k => spec_piFirst.l0 k (q ++ t) s acc (q ++ t) ((q ++ t).length : Int) (q.length : Int)) (acc ++ fstW t s (q.length : Int))
 | [], q, s, acc, hl, h1, hs, h0, h2, ha => Ev.step (f := fun _ => some acc) (fun k => by rw [spec_piFirst.l0, if_neg (by simp)]) (Ev.val (by simp [fstW]))
 | p :: t, q, s, acc, hl, h1, hs, h0, h2, ha => by
  have hp := h1 p (by simp)
  have ht : ∀ x ∈ t, 1 ≤ x := fun x hx => h1 x (by simp [hx])
  have hq0 : ∀ x ∈ q, 0 ≤ x := fun x hx => by have := h1 x (by simp [hx]); omega
  have hsq := sum_nonneg q hq0
  have hst := sum_nonneg t (fun x hx => by have := ht x hx; omega)
  have hll : q.length + (t.length + 1) ≤ 20 := by simpa using hl
  have ew : wrap64 ((q.length : Int) + 1) = ((q ++ [p]).length : Int) := by rw [w64 (by omega) (by omega)]; simp
  have el : ((q ++ [p]).length : Int) = (q.length : Int) + 1 := by simp
  have eq' : q ++ p :: t = (q ++ [p]) ++ t := by simp
  have hsum : (q ++ p :: t).sum = q.sum + (p + t.sum) := by simp
  have hdrop : (q ++ p :: t).drop ((q ++ [p]).length : Int).toNat = t := by
   rw [eq', Int.toNat_natCast, List.drop_left]
  have next : ∀ (s' : Int) (acc' : List Int), 0 ≤ s' → s' ≤ 1000000000 → acc'.length ≤ q.length + 1 → Ev (fun k => spec_piFirst.l0 k (q ++ p :: t) s' acc' (q ++ p :: t) ((q ++ p :: t).length : Int) ((q ++ [p]).length : Int)) (acc' ++ fstW t s' ((q.length : Int) + 1)) := by
   intro s' acc' h3 h4 h5
   have ih := spec_piFirst.ev_l t (q ++ [p]) s' acc' (by rw [← eq']; exact hl) (by rw [← eq']; exact h1) (by rw [← eq']; exact hs) h3 h4 (by simp; omega)
   rw [← eq', el] at ih
   rw [el]; exact ih
  by_cases c : p ≤ s
  · have hm := spec_piMake.ev t (s - p) (by omega) ht (by omega) (by omega)
    by_cases d : 0 < cnt t (s - p)
    · refine Ev.step (f := fun k => (spec_piMake.f k t (s - p)).bind fun t384 => (if t384 > 0 then (if acc.length < 17592186044416 then (spec_piFirst.l0 k (q ++ p :: t) (s - p) (acc ++ [(q.length : Int)]) (q ++ p :: t) ((q ++ p :: t).length : Int) ((q ++ [p]).length : Int)) else none) else (spec_piFirst.l0 k (q ++ p :: t) s acc (q ++ p :: t) ((q ++ p :: t).length : Int) ((q ++ [p]).length : Int)))) (fun k => ?_) (Ev.bind hm (Ev.pos d (Ev.pos (by omega) (Ev.eq (next (s - p) (acc ++ [(q.length : Int)]) (by omega) (by omega) (by simp; omega)) ?_))))
      · rw [spec_piFirst.l0, if_pos (by simp <;> omega), if_pos (by omega), if_pos (by simp <;> omega), rd_app, if_pos c, ew, if_pos (by omega), if_pos (by simp <;> omega), hdrop, w64 (n := s - p) (by omega) (by omega)]
      rw [fstW, if_pos ⟨c, d⟩]; simp
    refine Ev.step (f := fun k => (spec_piMake.f k t (s - p)).bind fun t384 => (if t384 > 0 then (if acc.length < 17592186044416 then (spec_piFirst.l0 k (q ++ p :: t) (s - p) (acc ++ [(q.length : Int)]) (q ++ p :: t) ((q ++ p :: t).length : Int) ((q ++ [p]).length : Int)) else none) else (spec_piFirst.l0 k (q ++ p :: t) s acc (q ++ p :: t) ((q ++ p :: t).length : Int) ((q ++ [p]).length : Int)))) (fun k => ?_) (Ev.bind hm (Ev.neg (by omega) (Ev.eq (next s acc h0 h2 (by omega)) ?_)))
    · rw [spec_piFirst.l0, if_pos (by simp <;> omega), if_pos (by omega), if_pos (by simp <;> omega), rd_app, if_pos c, ew, if_pos (by omega), if_pos (by simp <;> omega), hdrop, w64 (n := s - p) (by omega) (by omega)]
    rw [fstW, if_neg (fun h => d h.2)]
  refine Ev.step (f := fun k => spec_piFirst.l0 k (q ++ p :: t) s acc (q ++ p :: t) ((q ++ p :: t).length : Int) ((q ++ [p]).length : Int)) (fun k => ?_) (Ev.eq (next s acc h0 h2 (by omega)) ?_)
  · rw [spec_piFirst.l0, if_pos (by simp <;> omega), if_pos (by omega), if_pos (by simp <;> omega), rd_app, if_neg (by omega), ew]
  rw [fstW, if_neg (fun h => c h.1)]
theorem spec_piFirst.ev (l : List Int) (s : Int) (hl : l.length ≤ 20) (h1 : ∀ x ∈ l, 1 ≤ x) (hs : l.sum ≤ 1000000000) (h0 : 0 ≤ s) (h2 : s ≤ 1000000000) : Ev (fun k => spec_piFirst.f k l s) (fstW l s 0) := by
 unfold spec_piFirst.f
 exact spec_piFirst.ev_l l [] s [] hl h1 hs h0 h2 (by simp)
/-- Whether the pieces from a place on make each number. -/
def canR (l : List Int) (N j : Nat) : List Bool := tabB N fun a => decide (0 < cnt (l.drop j) a)
/-- The table as far as it is made. -/
def canT (l : List Int) (N i d : Nat) (r : List Bool) : List (List Bool) := List.replicate i [] ++ r :: (List.range' (i + 1) d).map (canR l N)
theorem canT_length (l : List Int) (N i d : Nat) (r : List Bool) : (canT l N i d r).length = i + d + 1 := by simp [canT]; omega
theorem canT_at (l : List Int) (N i d : Nat) (r : List Bool) : rd_L4 (canT l N i d r) (i : Int) = r := by
 simp [rd_L4, canT, List.getD_eq_getElem?_getD]
theorem canT_next (l : List Int) (N i d j : Nat) (r : List Bool) (h : i < j) (h' : j ≤ i + d) : rd_L4 (canT l N i d r) (j : Int) = canR l N j := by
 simp only [rd_L4, canT, List.getD_eq_getElem?_getD, Int.toNat_natCast]
 rw [List.getElem?_append_right (by simp; omega)]
 simp only [List.length_replicate]
 obtain ⟨m, rfl⟩ : ∃ m, j = i + (m + 1) := ⟨j - i - 1, by omega⟩
 rw [show i + (m + 1) - i = m + 1 by omega, List.getElem?_cons_succ, List.getElem?_map, List.getElem?_range' (by omega)]
 simp; congr 1; omega
theorem canT_set (l : List Int) (N i d : Nat) (r r' : List Bool) : (canT l N i d r).set ((i : Int)).toNat r' = canT l N i d r' := by
 unfold canT
 rw [Int.toNat_natCast, List.set_append_right _ _ (by simp)]
 simp
theorem canT_down (l : List Int) (N i d : Nat) (r' : List Bool) : (canT l N (i + 1) d (canR l N (i + 1))).set ((i : Int)).toNat r' = canT l N i (d + 1) r' := by
 unfold canT
 rw [Int.toNat_natCast, List.replicate_succ', List.append_assoc, List.set_append_right _ _ (by simp)]
 simp [List.range'_succ]
theorem impl_firstWay.ev_2 (l : List Int) (N : Nat) (hl : l.length ≤ 20) (h1 : ∀ x ∈ l, 1 ≤ x) : ∀ (t q : List Int) (s : Int) (acc : List Int), l = q ++ t → 0 ≤ s → s < N → N ≤ 1000000001 → 0 < cnt t s → acc.length ≤ q.length → Ev (fun k => impl_firstWay.l2 k l s (canT l N 0 l.length (canR l N 0)) acc (q.length : Int)) (acc ++ fstW t s (q.length : Int), true)
 | [], q, s, acc, e, h0, h2, h3, hc, ha => by
  have : s = 0 := by
   unfold cnt at hc
   split at hc
   · assumption
   omega
  subst this
  exact Ev.step (f := fun _ => some (acc, true)) (fun k => by rw [impl_firstWay.l2, if_neg (by omega)]) (Ev.val (by simp [fstW]))
 | p :: t, q, s, acc, e, h0, h2, h3, hc, ha => by
  have hp := h1 p (by rw [e]; simp)
  have ht : ∀ x ∈ t, 1 ≤ x := fun x hx => h1 x (by rw [e]; simp [hx])
  have hll : l.length = q.length + (t.length + 1) := by rw [e]; simp
  by_cases z : s = 0
  · subst z
    refine Ev.step (f := fun _ => some (acc, true)) (fun k => by rw [impl_firstWay.l2, if_neg (by omega)]) (Ev.val ?_)
    rw [fstW_zero (p :: t) _ (fun x hx => h1 x (by rw [e]; simp at hx ⊢; exact .inr hx))]; simp
  have ew : wrap64 ((q.length : Int) + 1) = ((q.length + 1 : Nat) : Int) := by rw [w64 (by omega) (by omega)]; omega
  have el : ((q ++ [p]).length : Int) = ((q.length + 1 : Nat) : Int) := by simp
  have eq' : l = (q ++ [p]) ++ t := by rw [e]; simp
  have hrd : rd l (q.length : Int) = p := by rw [e]; exact rd_app q p t
  have hdr : l.drop (q.length + 1) = t := by
   rw [eq', show q.length + 1 = (q ++ [p]).length by simp, List.drop_left]
  have hrow : rd_L4 (canT l N 0 l.length (canR l N 0)) ((q.length + 1 : Nat) : Int) = canR l N (q.length + 1) := canT_next l N 0 l.length (q.length + 1) _ (by omega) (by omega)
  have next : ∀ (s' : Int) (acc' : List Int), 0 ≤ s' → s' < N → 0 < cnt t s' → acc'.length ≤ q.length + 1 → Ev (fun k => impl_firstWay.l2 k l s' (canT l N 0 l.length (canR l N 0)) acc' ((q.length + 1 : Nat) : Int)) (acc' ++ fstW t s' ((q.length : Int) + 1), true) := by
   intro s' acc' h4 h5 h6 h7
   have ih := impl_firstWay.ev_2 l N hl h1 t (q ++ [p]) s' acc' eq' h4 h5 h3 h6 (by simp; omega)
   rw [el] at ih
   rw [show (q.length : Int) + 1 = ((q.length + 1 : Nat) : Int) by omega]
   exact ih
  by_cases c : p ≤ s
  · have hval : rdOf false (canR l N (q.length + 1)) (s - p) = decide (0 < cnt t (s - p)) := by
     unfold canR; rw [rd_tabB _ _ _ (by omega) (by omega), hdr]
    have hlen : ((canR l N (q.length + 1)).length : Int) = N := by unfold canR; rw [tabB_length]
    have hw : wrap64 (s - p) = s - p := w64 (by omega) (by omega)
    by_cases d : 0 < cnt t (s - p)
    · refine Ev.step (fun k => ?_) (Ev.eq (next (s - p) (acc ++ [(q.length : Int)]) (by omega) (by omega) d (by simp; omega)) ?_)
      · rw [impl_firstWay.l2, if_pos (by omega), if_pos (by omega), if_pos (by omega), hrd, if_pos c, ew, if_pos (by omega), if_pos (by rw [canT_length]; omega), hw, if_pos (by omega), hrow, if_pos (by omega), hval, if_pos (decide_eq_true d), if_pos (by omega)]
      rw [fstW, if_pos ⟨c, d⟩]; simp
    have hc' : 0 < cnt t s := by
     rw [cnt] at hc
     have := cnt_nonneg t (s - p); omega
    refine Ev.step (fun k => ?_) (Ev.eq (next s acc h0 h2 hc' (by omega)) ?_)
    · rw [impl_firstWay.l2, if_pos (by omega), if_pos (by omega), if_pos (by omega), hrd, if_pos c, ew, if_pos (by omega), if_pos (by rw [canT_length]; omega), hw, if_pos (by omega), hrow, if_pos (by omega), hval, if_neg (by simpa using d)]
    rw [fstW, if_neg (fun h => d h.2)]
  have hc' : 0 < cnt t s := by
   rw [cnt, cnt_neg t (fun x hx => by have := ht x hx; omega) (s - p) (by omega)] at hc; omega
  refine Ev.step (fun k => ?_) (Ev.eq (next s acc h0 h2 hc' (by omega)) ?_)
  · rw [impl_firstWay.l2, if_pos (by omega), if_pos (by omega), if_pos (by omega), hrd, if_neg c, ew]
  rw [fstW, if_neg (fun h => c h.1)]
/-- What the first way comes to. -/
def firstB (l : List Int) (s : Int) : List Int × Bool := if 0 < cnt l s then (fstW l s 0, true) else ([], false)
theorem impl_firstWay.ev_0 (l : List Int) (N : Nat) (s : Int) (hl : l.length ≤ 20) (h1 : ∀ x ∈ l, 1 ≤ x ∧ x ≤ 1000000000) (h0 : 0 ≤ s) (hN : (N : Int) = s + 1) (hN' : N ≤ 1000000001) : ∀ (i d : Nat), i + d = l.length → Ev (fun k => impl_firstWay.l0 k l s (canT l N i d (canR l N i)) ((i : Int) - 1)) (firstB l s)
 | 0, d, h => by
  obtain rfl : d = l.length := by omega
  have hrow := canT_at l N 0 l.length (canR l N 0)
  have hval : rdOf false (canR l N 0) s = decide (0 < cnt l s) := by
   unfold canR; rw [rd_tabB _ _ _ h0 (by omega), List.drop_zero]
  have hlen : ((canR l N 0).length : Int) = N := by unfold canR; rw [tabB_length]
  have hrow' : rd_L4 (canT l N 0 l.length (canR l N 0)) 0 = canR l N 0 := hrow
  by_cases c : 0 < cnt l s
  · refine Ev.step (f := fun k => impl_firstWay.l2 k l s (canT l N 0 l.length (canR l N 0)) [] 0) (fun k => ?_) (Ev.eq (impl_firstWay.ev_2 l N hl (fun x hx => (h1 x hx).1) l [] s [] rfl h0 (by omega) hN' c (by simp)) ?_)
    · rw [impl_firstWay.l0, if_neg (by omega), if_pos (by rw [canT_length]; omega), if_pos h0, hrow', if_pos (by omega), hval, if_pos (decide_eq_true c)]
    rw [firstB, if_pos c]; simp
  refine Ev.step (f := fun k => some ([], false)) (fun k => ?_) (Ev.val ?_)
  · rw [impl_firstWay.l0, if_neg (by omega), if_pos (by rw [canT_length]; omega), if_pos h0, hrow', if_pos (by omega), hval, if_neg (by simpa using c)]
  rw [firstB, if_neg c]
 | i + 1, d, h => by
  have ih := impl_firstWay.ev_0 l N s hl h1 h0 hN hN' i (d + 1) (by omega)
  have hi : i < l.length := by omega
  have hp := h1 l[i] (List.getElem_mem hi)
  have hrd : rd l (i : Int) = l[i] := rd_eq l i hi
  have hdr : l.drop i = l[i] :: l.drop (i + 1) := List.drop_eq_getElem_cons hi
  have ei : (((i + 1 : Nat) : Int) - 1) = (i : Int) := by omega
  have ew : wrap64 ((i : Int) + 1) = ((i + 1 : Nat) : Int) := by rw [w64 (by omega) (by omega)]; omega
  have ew2 : wrap64 ((i : Int) - 1) = (i : Int) - 1 := w64 (by omega) (by omega)
  have hdn : ∀ a, a < 0 → cnt (l.drop (i + 1)) a = 0 := fun a ha => cnt_neg _ (fun x hx => by have := (h1 x (List.mem_of_mem_drop hx)).1; omega) a ha
  generalize hg : l[i] = p at *
  -- the row being made
  have inner : ∀ (e : Nat) (x : Int), p ≤ x → x + (e : Int) = s + 1 ∨ (s + 1 ≤ x ∧ e = 0) → Ev (fun k => impl_firstWay.l1 k l s (canT l N i (d + 1) (tabB N fun a => if a < x then decide (0 < cnt (l.drop i) a) else decide (0 < cnt (l.drop (i + 1)) a))) (i : Int) x) (firstB l s) := by
   intro e
   induction e with
   | zero =>
    intro x hx he
    refine Ev.step (fun k => ?_) ih
    rw [impl_firstWay.l1, if_neg (by omega), ew2]
    congr 2
    unfold canR
    refine tabB_congr _ _ _ (fun a ha0 ha1 => ?_)
    rw [if_pos (by omega)]
   | succ e ihe =>
    intro x hx he
    have ihx := ihe (x + 1) (by omega) (by omega)
    have hrow := canT_at l N i (d + 1) (tabB N fun a => if a < x then decide (0 < cnt (l.drop i) a) else decide (0 < cnt (l.drop (i + 1)) a))
    have hrow2 : rd_L4 (canT l N i (d + 1) (tabB N fun a => if a < x then decide (0 < cnt (l.drop i) a) else decide (0 < cnt (l.drop (i + 1)) a))) ((i + 1 : Nat) : Int) = canR l N (i + 1) := canT_next l N i (d + 1) (i + 1) _ (by omega) (by omega)
    have hv : rdOf false (tabB N fun a => if a < x then decide (0 < cnt (l.drop i) a) else decide (0 < cnt (l.drop (i + 1)) a)) x = decide (0 < cnt (l.drop (i + 1)) x) := by
     rw [rd_tabB _ _ _ (by omega) (by omega), if_neg (by omega)]
    have hv2 : rdOf false (canR l N (i + 1)) (x - p) = decide (0 < cnt (l.drop (i + 1)) (x - p)) := by
     unfold canR; rw [rd_tabB _ _ _ (by omega) (by omega)]
    have hlen : ((canR l N (i + 1)).length : Int) = N := by unfold canR; rw [tabB_length]
    have hcx : cnt (l.drop i) x = cnt (l.drop (i + 1)) x + cnt (l.drop (i + 1)) (x - p) := by rw [hdr, cnt]
    have n1 := cnt_nonneg (l.drop (i + 1)) x
    have n2 := cnt_nonneg (l.drop (i + 1)) (x - p)
    have ewx : wrap64 (x + 1) = x + 1 := w64 (by omega) (by omega)
    have ewp : wrap64 (x - p) = x - p := w64 (by omega) (by omega)
    have step : ∀ b : Bool, b = decide (0 < cnt (l.drop i) x) → (tabB N fun a => if a < x then decide (0 < cnt (l.drop i) a) else decide (0 < cnt (l.drop (i + 1)) a)).set x.toNat b = tabB N fun a => if a < x + 1 then decide (0 < cnt (l.drop i) a) else decide (0 < cnt (l.drop (i + 1)) a) := by
     intro b hb
     rw [tabB_set _ _ _ _ (by omega)]
     refine tabB_congr _ _ _ (fun a _ _ => ?_)
     by_cases q : a = x
     · subst q; rw [if_pos rfl, if_pos (by omega), hb]
     rw [if_neg q]
     by_cases q2 : a < x
     · rw [if_pos q2, if_pos (by omega)]
     rw [if_neg q2, if_neg (by omega)]
    by_cases c : 0 < cnt (l.drop (i + 1)) x
    · refine Ev.step (fun k => ?_) ihx
      rw [impl_firstWay.l1, if_pos (by omega), if_pos (by omega), if_pos (by rw [canT_length]; omega), if_pos (by omega), hrow, if_pos (by rw [tabB_length]; omega), hv, if_pos (decide_eq_true c), canT_set, step true (by symm; exact decide_eq_true (by omega)), ewx]
    refine Ev.step (fun k => ?_) ihx
    rw [impl_firstWay.l1, if_pos (by omega), if_pos (by omega), if_pos (by rw [canT_length]; omega), if_pos (by omega), hrow, if_pos (by rw [tabB_length]; omega), hv, if_neg (by simpa using c), ew, if_pos (by omega), if_pos (by rw [canT_length]; omega), if_pos (by omega), hrd, ewp, if_pos (by omega), hrow2, if_pos (by omega), hv2, canT_set, step _ (by rw [decide_eq_decide]; omega), ewx]
  have hst : canR l N (i + 1) = tabB N fun a => if a < p then decide (0 < cnt (l.drop i) a) else decide (0 < cnt (l.drop (i + 1)) a) := by
   unfold canR
   refine tabB_congr _ _ _ (fun a ha0 _ => ?_)
   by_cases q : a < p
   · rw [if_pos q, hdr, cnt, hdn (a - p) (by omega), Int.add_zero]
   rw [if_neg q]
  have hcl : slices_Clone_bool_bool.f (canR l N (i + 1)) = some (canR l N (i + 1)) := by
   unfold slices_Clone_bool_bool.f
   rw [if_pos (by unfold canR; rw [tabB_length]; omega)]
  refine Ev.step (f := fun k => impl_firstWay.l1 k l s (canT l N i (d + 1) (tabB N fun a => if a < p then decide (0 < cnt (l.drop i) a) else decide (0 < cnt (l.drop (i + 1)) a))) (i : Int) p) (fun k => ?_) (inner (s + 1 - p).toNat p (Int.le_refl _) (by omega))
  rw [impl_firstWay.l0, if_pos (by omega), ei, ew, if_pos (by omega), if_pos (by rw [canT_length]; omega), canT_at, hcl, Option.bind_some, if_pos (by omega), if_pos (by rw [canT_length]; omega), if_pos (by omega), canT_down, hrd, hst]
theorem impl_firstWay.ev (l : List Int) (s : Int) (hl : l.length ≤ 20) (h1 : ∀ x ∈ l, 1 ≤ x) (hs : l.sum ≤ 1000000000) (h0 : 0 ≤ s) : Ev (fun k => impl_firstWay.f k l s) (firstB l s) := by
 have h1' : ∀ x ∈ l, 0 ≤ x := fun x hx => by have := h1 x hx; omega
 have hxs : ∀ (l : List Int), (∀ x ∈ l, 0 ≤ x) → ∀ x ∈ l, x ≤ l.sum := by
  intro l
  induction l with
  | nil => intro _ x hx; simp at hx
  | cons y t ih =>
   intro h x hx
   have hy := h y (by simp)
   have ht : ∀ x ∈ t, 0 ≤ x := fun x hx => h x (by simp [hx])
   have := sum_nonneg t ht
   rw [List.sum_cons]
   rcases List.mem_cons.1 hx with e | e
   · omega
   have := ih ht x e; omega
 unfold impl_firstWay.f
 refine Ev.bind (impl_total.ev l (by omega) h1' hs) (Ev.ite (fun c => Ev.val ?_) (fun c => ?_))
 · rw [firstB, if_neg (by rw [cnt_above l h1' s (by omega)]; omega)]
 have ew : wrap64 ((l.length : Int) + 1) = (l.length : Int) + 1 := w64 (by omega) (by omega)
 have ew2 : wrap64 (s + 1) = s + 1 := w64 (by omega) (by omega)
 have ew3 : wrap64 ((l.length : Int) - 1) = (l.length : Int) - 1 := w64 (by omega) (by omega)
 rw [ew, ew2, ew3]
 refine Ev.pos (by omega) (Ev.pos (by omega) ?_)
 simp only [Option.bind_some]
 refine Ev.pos (by omega) (Ev.pos (by omega) (Ev.pos (by omega) (Ev.pos (by simp <;> omega) ?_)))
 have e1 : List.replicate ((l.length : Int) + 1).toNat ([] : List Bool) = canT l (s + 1).toNat l.length 0 [] := by
  rw [show ((l.length : Int) + 1).toNat = l.length + 1 by omega, List.replicate_succ']; simp [canT]
 have e2 : (List.replicate (s + 1).toNat false).set (0 : Int).toNat true = canR l (s + 1).toNat l.length := by
  rw [tabB_rep, tabB_set _ _ _ _ (by omega)]
  unfold canR
  refine tabB_congr _ _ _ (fun a _ _ => ?_)
  rw [List.drop_length, cnt]
  by_cases q : a = 0
  · simp [q]
  simp [q]
 rw [e1, canT_set, canT_at]
 refine Ev.pos (by simp <;> omega) ?_
 rw [canT_set, e2]
 exact impl_firstWay.ev_0 l (s + 1).toNat s hl (fun x hx => ⟨h1 x hx, Int.le_trans (hxs l h1' x hx) hs⟩) h0 (by omega) (by omega) l.length 0 (by omega)
theorem impl_isSum.ev (l : List Int) (s : Int) (hl : l.length ≤ 9223372036854775806) : Ev (fun k => impl_isSum.f k l s) (piGoodB l && inB s 0 200000) := by
 unfold impl_isSum.f
 refine Ev.bind (impl_ArePieces.ev l hl) (Ev.ite (fun c => Ev.bindc (impl_within.valB s 0 200000) (Ev.val (by rw [c]; rfl))) (fun c => Ev.val ?_))
 rw [Bool.not_eq_true] at c; rw [c]; rfl
theorem spec_piAsked.ev (l : List Int) (s : Int) (hl : l.length ≤ 9223372036854775806) : Ev (fun k => spec_piAsked.f k l s) (piGoodB l && inB s 0 200000) := by
 unfold spec_piAsked.f
 refine Ev.bind (spec_piGood.ev l hl) (Ev.ite (fun c => Ev.bindc (spec_l1In.valB s 0 200000) (Ev.val (by rw [c]; rfl))) (fun c => Ev.val ?_))
 rw [Bool.not_eq_true] at c; rw [c]; rfl
theorem asked_facts {l : List Int} {s : Int} (h : (piGoodB l && inB s 0 200000) = true) : piGoodB l = true ∧ 0 ≤ s ∧ s ≤ 200000 := by
 unfold inB at h
 simp only [Bool.and_eq_true, decide_eq_true_eq] at h
 exact ⟨h.1, h.2.1, h.2.2⟩
def wayB (l : List Int) (s : Int) : List Int × Bool := if (piGoodB l && inB s 0 200000) = true ∧ 0 < cnt l s then (fstW l s 0, true) else ([], false)
def waysB (l : List Int) (s : Int) : Int × Bool := if (piGoodB l && inB s 0 200000) = true then (cnt l s, true) else (0, false)
def canMB (l : List Int) (s : Int) : Bool × Bool := if (piGoodB l && inB s 0 200000) = true then (decide (0 < cnt l s), true) else (false, false)
theorem impl_FirstWay.ev (l : List Int) (s : Int) (hl : l.length ≤ 9223372036854775806) : Ev (fun k => impl_FirstWay.f k l s) (wayB l s) := by
 unfold impl_FirstWay.f
 refine Ev.bind (impl_isSum.ev l s hl) (Ev.ite (fun c => ?_) (fun c => Ev.val (by rw [wayB, if_neg (fun h => c h.1)])))
 obtain ⟨g, h0, h2⟩ := asked_facts c
 have hg := piGood_sum g
 refine Ev.bind (impl_firstWay.ev l s hg.1 (fun x hx => (hg.2.1 x hx).1) (by omega) h0) (Ev.val ?_)
 unfold firstB wayB
 by_cases d : 0 < cnt l s
 · rw [if_pos d, if_pos ⟨c, d⟩]
 rw [if_neg d, if_neg (fun h => d h.2)]
theorem spec_FirstWay.ev (l : List Int) (s : Int) (hl : l.length ≤ 9223372036854775806) : Ev (fun k => spec_FirstWay.f k l s) (wayB l s) := by
 unfold spec_FirstWay.f
 refine Ev.bind (spec_piAsked.ev l s hl) (Ev.ite (fun c => ?_) (fun c => Ev.val (by rw [wayB, if_neg (fun h => c h.1)])))
 obtain ⟨g, h0, h2⟩ := asked_facts c
 have hg := piGood_sum g
 have h1 : ∀ x ∈ l, 1 ≤ x := fun x hx => (hg.2.1 x hx).1
 have hn := cnt_nonneg l s
 refine Ev.bind (spec_piMake.ev l s hg.1 h1 (by omega) h0) (Ev.ite (fun d => Ev.val ?_) (fun d => Ev.bind (spec_piFirst.ev l s hg.1 h1 (by omega) h0 (by omega)) (Ev.val ?_)))
 · rw [wayB, if_neg (fun h => by omega)]
 rw [wayB, if_pos ⟨c, by omega⟩]
theorem impl_WaysOf.ev (l : List Int) (s : Int) (hl : l.length ≤ 9223372036854775806) : Ev (fun k => impl_WaysOf.f k l s) (waysB l s) := by
 unfold impl_WaysOf.f
 refine Ev.bind (impl_isSum.ev l s hl) (Ev.ite (fun c => ?_) (fun c => Ev.val (by rw [waysB, if_neg c])))
 obtain ⟨g, h0, h2⟩ := asked_facts c
 have hg := piGood_sum g
 exact Ev.bind (impl_waysOf.ev l s hg.1 (fun x hx => (hg.2.1 x hx).1) (by omega) h0) (Ev.val (by rw [waysB, if_pos c]))
theorem spec_WaysOf.ev (l : List Int) (s : Int) (hl : l.length ≤ 9223372036854775806) : Ev (fun k => spec_WaysOf.f k l s) (waysB l s) := by
 unfold spec_WaysOf.f
 refine Ev.bind (spec_piAsked.ev l s hl) (Ev.ite (fun c => ?_) (fun c => Ev.val (by rw [waysB, if_neg c])))
 obtain ⟨g, h0, h2⟩ := asked_facts c
 have hg := piGood_sum g
 exact Ev.bind (spec_piMake.ev l s hg.1 (fun x hx => (hg.2.1 x hx).1) (by omega) h0) (Ev.val (by rw [waysB, if_pos c]))
theorem impl_CanMake.ev (l : List Int) (s : Int) (hl : l.length ≤ 9223372036854775806) : Ev (fun k => impl_CanMake.f k l s) (canMB l s) := by
 unfold impl_CanMake.f
 refine Ev.bind (impl_WaysOf.ev l s hl) (Ev.val ?_)
 unfold waysB canMB
 by_cases c : (piGoodB l && inB s 0 200000) = true
 · rw [if_pos c, if_pos c]
 rw [if_neg c, if_neg c]; rfl
theorem spec_CanMake.ev (l : List Int) (s : Int) (hl : l.length ≤ 9223372036854775806) : Ev (fun k => spec_CanMake.f k l s) (canMB l s) := by
 unfold spec_CanMake.f
 refine Ev.bind (spec_piAsked.ev l s hl) (Ev.ite (fun c => ?_) (fun c => Ev.val (by rw [canMB, if_neg c])))
 obtain ⟨g, h0, h2⟩ := asked_facts c
 have hg := piGood_sum g
 exact Ev.bind (spec_piMake.ev l s hg.1 (fun x hx => (hg.2.1 x hx).1) (by omega) h0) (Ev.val (by rw [canMB, if_pos c]))
def halfB (l : List Int) : List Int × Bool := if piGoodB l = true ∧ l.sum % 2 = 0 then firstB l (l.sum / 2) else ([], false)
theorem impl_HalfOf.ev (l : List Int) (hl : l.length ≤ 9223372036854775806) : Ev (fun k => impl_HalfOf.f k l) (halfB l) := by
 unfold impl_HalfOf.f
 have no : ¬ (piGoodB l = true ∧ l.sum % 2 = 0) → Ev (fun k => impl_HalfOf.j0 k l true) (halfB l) := fun h => Ev.step (f := fun _ => some ([], false)) (fun k => by rw [impl_HalfOf.j0, if_pos rfl]) (Ev.val (by rw [halfB, if_neg h]))
 refine Ev.bind (impl_ArePieces.ev l hl) (Ev.ite (fun c => ?_) (fun c => no (fun h => c h.1)))
 have hg := piGood_sum c
 have h1 : ∀ x ∈ l, 1 ≤ x := fun x hx => (hg.2.1 x hx).1
 have ht := impl_total.ev l (by omega) (fun x hx => by have := h1 x hx; omega) (by omega)
 refine Ev.bind ht ?_
 have em : Int.tmod l.sum 2 = l.sum % 2 := Int.tmod_eq_emod_of_nonneg hg.2.2.2.1
 have ed : Int.tdiv l.sum 2 = l.sum / 2 := Int.tdiv_eq_ediv_of_nonneg hg.2.2.2.1
 have hd : 0 ≤ l.sum / 2 := by have := hg.2.2.2.1; omega
 rw [em]
 by_cases d : l.sum % 2 = 1
 · have e : (l.sum % 2 == 1) = true := by simp [d]
   rw [e]
   exact no (fun h => by omega)
 have e : (l.sum % 2 == 1) = false := by simp [d]
 rw [e]
 refine Ev.step (f := fun k => (impl_total.f k l).bind fun t373 => ((impl_firstWay.f k l (wrap64 (Int.tdiv t373 2))).bind fun bt374 => (some (bt374.1, bt374.2)))) (fun k => by rw [impl_HalfOf.j0, if_neg (by decide)]) (Ev.bind ht ?_)
 rw [ed, w64 (by omega) (by omega)]
 exact Ev.bind (impl_firstWay.ev l _ hg.1 h1 (by omega) hd) (Ev.val (by rw [halfB, if_pos ⟨c, by omega⟩]))
theorem spec_HalfOf.ev (l : List Int) (hl : l.length ≤ 9223372036854775806) : Ev (fun k => spec_HalfOf.f k l) (halfB l) := by
 unfold spec_HalfOf.f
 have no : halfB l = ([], false) → Ev (fun k => spec_HalfOf.j0 k l true) (halfB l) := fun h => Ev.step (f := fun _ => some ([], false)) (fun k => by rw [spec_HalfOf.j0, if_pos rfl]) (Ev.val h.symm)
 refine Ev.bind (spec_piGood.ev l hl) (Ev.ite (fun c => ?_) (fun c => no (by rw [halfB, if_neg (fun h => c h.1)])))
 have hg := piGood_sum c
 have h1 : ∀ x ∈ l, 1 ≤ x := fun x hx => (hg.2.1 x hx).1
 have ht := spec_piSum.ev l (by omega) (fun x hx => by have := h1 x hx; omega) (by omega)
 refine Ev.bind ht ?_
 have em : Int.tmod l.sum 2 = l.sum % 2 := Int.tmod_eq_emod_of_nonneg hg.2.2.2.1
 have ed : Int.tdiv l.sum 2 = l.sum / 2 := Int.tdiv_eq_ediv_of_nonneg hg.2.2.2.1
 have hd : 0 ≤ l.sum / 2 := by have := hg.2.2.2.1; omega
 rw [em]
 refine Ev.ite (fun d => Ev.bind ht ?_) (fun d => no (by rw [halfB, if_neg (fun h => d h.2)]))
 have hw : wrap64 (l.sum / 2) = l.sum / 2 := w64 (by omega) (by omega)
 rw [ed, hw]
 refine Ev.bind (spec_piMake.ev l _ hg.1 h1 (by omega) hd) ?_
 have hn := cnt_nonneg l (l.sum / 2)
 by_cases q : cnt l (l.sum / 2) = 0
 · have e : (cnt l (l.sum / 2) == 0) = true := by simp [q]
   rw [e]
   exact no (by rw [halfB, if_pos ⟨c, d⟩, firstB, if_neg (by omega)])
 have e : (cnt l (l.sum / 2) == 0) = false := by simp [q]
 rw [e]
 refine Ev.step (f := fun k => (spec_piSum.f k l).bind fun t392 => ((spec_piFirst.f k l (wrap64 (Int.tdiv t392 2))).bind fun t393 => (some (t393, true)))) (fun k => by rw [spec_HalfOf.j0, if_neg (by decide)]) (Ev.bind ht ?_)
 rw [ed, hw]
 exact Ev.bind (spec_piFirst.ev l _ hg.1 h1 (by omega) hd (by omega)) (Ev.val (by rw [halfB, if_pos ⟨c, d⟩, firstB, if_pos (by omega)]))
/-- The least number of pieces for a sum; N if there is no way. -/
def fewL (N : Int) : List Int → Int → Int
 | [], s => if s = 0 then 0 else N
 | x :: t, s => mn (fewL N t s) (fewL N t (s - x) + 1)
theorem mn_eq (a b : Int) : mn a b = if b < a then b else a := rfl
theorem fewL_snoc (N : Int) (l : List Int) (n s : Int) : fewL N (l ++ [n]) s = mn (fewL N l s) (fewL N l (s - n) + 1) := by
 induction l generalizing s with
 | nil => simp [fewL]
 | cons x t ih =>
  simp only [List.cons_append, fewL, ih]
  rw [show s - x - n = s - n - x by omega]
  simp only [mn_eq]
  split <;> split <;> split <;> split <;> (try split) <;> omega
theorem fewL_range (N : Int) (hN : 0 ≤ N) (l : List Int) (s : Int) : 0 ≤ fewL N l s ∧ fewL N l s ≤ N := by
 induction l generalizing s with
 | nil => unfold fewL; split <;> omega
 | cons x t ih =>
  have h1 := ih s; have h2 := ih (s - x)
  unfold fewL; rw [mn_eq]; split <;> omega
theorem fewL_neg (N : Int) (hN : 0 ≤ N) (l : List Int) (hl : ∀ x ∈ l, 0 ≤ x) (s : Int) (h : s < 0) : fewL N l s = N := by
 induction l generalizing s with
 | nil => unfold fewL; rw [if_neg (by omega)]
 | cons x t ih =>
  have hx := hl x (by simp)
  unfold fewL
  rw [ih (fun y hy => hl y (by simp [hy])) s h, ih (fun y hy => hl y (by simp [hy])) (s - x) (by omega), mn_eq, if_neg (by omega)]
theorem fewL_cnt (l : List Int) (N M : Int) (hN : (l.length : Int) < N) (hM : (l.length : Int) < M) (s : Int) : (cnt l s = 0 ∧ fewL N l s = N ∧ fewL M l s = M) ∨ (0 < cnt l s ∧ fewL N l s ≤ l.length ∧ fewL M l s = fewL N l s) := by
 induction l generalizing s with
 | nil => unfold fewL cnt; by_cases h : s = 0 <;> simp [h]
 | cons x t ih =>
  rw [List.length_cons] at hN hM
  have h1 := ih (by omega) (by omega) s
  have h2 := ih (by omega) (by omega) (s - x)
  have n1 := cnt_nonneg t s
  have n2 := cnt_nonneg t (s - x)
  unfold fewL cnt
  rw [mn_eq, mn_eq, List.length_cons]
  rcases h1 with ⟨a1, a2, a3⟩ | ⟨a1, a2, a3⟩ <;> rcases h2 with ⟨b1, b2, b3⟩ | ⟨b1, b2, b3⟩
  · left; refine ⟨by omega, ?_, ?_⟩ <;> split <;> omega
  · right; refine ⟨by omega, ?_, ?_⟩ <;> repeat (split) <;> omega
  · right; refine ⟨by omega, ?_, ?_⟩ <;> repeat (split) <;> omega
  right; refine ⟨by omega, ?_, ?_⟩ <;> repeat (split) <;> omega
theorem fewL_way (N : Int) (hN : 0 ≤ N) : ∀ (l : List Int) (s i : Int), (∀ x ∈ l, 1 ≤ x) → 0 < cnt l s → fewL N l s ≤ (fstW l s i).length
 | [], s, i, _, h => by
  unfold cnt at h
  split at h
  · rename_i e; simp [fewL, e]
  omega
 | p :: t, s, i, h1, h => by
  have hp := h1 p (by simp)
  have ht : ∀ x ∈ t, 1 ≤ x := fun x hx => h1 x (by simp [hx])
  rw [fewL, fstW, mn_eq]
  by_cases c : p ≤ s ∧ 0 < cnt t (s - p)
  · rw [if_pos c]
    have := fewL_way N hN t (s - p) (i + 1) ht c.2
    rw [List.length_cons]
    split <;> omega
  rw [if_neg c]
  have hc : 0 < cnt t s := by
   rw [cnt] at h
   have n1 := cnt_nonneg t s
   have n2 := cnt_nonneg t (s - p)
   by_cases d : p ≤ s
   · have : ¬ 0 < cnt t (s - p) := fun e => c ⟨d, e⟩
     omega
   rw [cnt_neg t (fun x hx => by have := ht x hx; omega) (s - p) (by omega)] at h; omega
  have := fewL_way N hN t s (i + 1) ht hc
  split <;> omega
def fewB (l : List Int) (s : Int) : Int × Bool := if (piGoodB l && inB s 0 200000) = true ∧ 0 < cnt l s then (fewL 21 l s, true) else (0, false)
theorem impl_FewestFor.ev_2 {R : Int × Bool} (N : Nat) (hN : N ≤ 1000000001) (s : Int) (p : Int) (hp : 1 ≤ p) (f : Int → Int) (hf : ∀ j, 0 ≤ f j ∧ f j ≤ 1000) (L : List Int) (n i : Int) (next : Ev (fun k => impl_FewestFor.l1 k s (tab N fun j => if p ≤ j then mn (f j) (f (j - p) + 1) else f j) L n (wrap64 (i + 1))) R) :
 ∀ (d : Nat) (x : Int), x < N → -1 ≤ x → x + 1 = d → Ev (fun k => impl_FewestFor.l2 k s (tab N fun j => if p ≤ j ∧ x < j then mn (f j) (f (j - p) + 1) else f j) p x L n i) R := by
 intro d
 have stop : ∀ x : Int, x < p → Ev (fun k => impl_FewestFor.l2 k s (tab N fun j => if p ≤ j ∧ x < j then mn (f j) (f (j - p) + 1) else f j) p x L n i) R := by
  intro x hx
  refine Ev.step (fun k => ?_) next
  rw [impl_FewestFor.l2, if_neg (by omega)]
  congr 1
  refine tab_congr _ _ _ (fun j _ _ => ?_)
  by_cases c : p ≤ j
  · rw [if_pos ⟨c, by omega⟩, if_pos c]
  rw [if_neg (by omega), if_neg c]
 induction d with
 | zero => intro x h1 h2 h3; exact stop x (by omega)
 | succ d ih =>
  intro x h1 h2 h3
  by_cases c : p ≤ x
  · refine Ev.step (fun k => ?_) (ih (x - 1) (by omega) (by omega) (by omega))
    have f1 := hf x
    have f2 := hf (x - p)
    rw [impl_FewestFor.l2, if_pos c, if_pos (by omega), if_pos (by rw [tab_length]; omega), w64 (n := x - p) (by omega) (by omega), if_pos (by omega), if_pos (by rw [tab_length]; omega), rd_tab _ _ _ (by omega) (by omega), rd_tab _ _ _ (by omega) (by omega), if_neg (by omega), if_neg (by omega), w64 (n := f (x - p) + 1) (by omega) (by omega), w64 (n := x - 1) (by omega) (by omega), tab_set _ _ _ _ (by omega)]
    congr 1
    refine tab_congr _ _ _ (fun j _ _ => ?_)
    by_cases e : j = x
    · subst e; rw [if_pos rfl, if_pos ⟨c, by omega⟩]
    rw [if_neg e]
    by_cases e2 : p ≤ j ∧ x < j
    · rw [if_pos e2, if_pos ⟨by omega, by omega⟩]
    rw [if_neg e2, if_neg (by omega)]
  exact stop x (by omega)
theorem impl_FewestFor.ev_1 {R : Int × Bool} (s : Int) (h0 : 0 ≤ s) (h2 : s ≤ 200000) (M : Int) (hM : 0 ≤ M ∧ M ≤ 999) : ∀ (t q : List Int), (q ++ t).length ≤ 20 → (∀ x ∈ q ++ t, 1 ≤ x) → ((if fewL M (q ++ t) s ≥ 21 then ((0 : Int), false) else (fewL M (q ++ t) s, true)) = R) → Ev (fun k => impl_FewestFor.l1 k s (tab (s + 1).toNat (fewL M q)) (q ++ t) ((q ++ t).length : Int) (q.length : Int)) R
 | [], q, hl, h1, hR => by
  rw [List.append_nil] at hR ⊢
  refine Ev.step (f := fun _ => some R) (fun k => ?_) (Ev.val rfl)
  rw [impl_FewestFor.l1, if_neg (by omega), if_pos h0, if_pos (by rw [tab_length]; omega), rd_tab _ _ _ h0 (by omega), ← hR]
  by_cases c : fewL M q s ≥ 21
  · rw [if_pos c, if_pos c]
  rw [if_neg c, if_neg c]
 | p :: t, q, hl, h1, hR => by
  have hll : q.length + (t.length + 1) ≤ 20 := by simpa using hl
  have hp := h1 p (by simp)
  have eq' : q ++ p :: t = (q ++ [p]) ++ t := by simp
  have ew : wrap64 ((q.length : Int) + 1) = ((q ++ [p]).length : Int) := by rw [w64 (by omega) (by omega)]; simp
  have ih := impl_FewestFor.ev_1 (R := R) s h0 h2 M hM t (q ++ [p]) (by rw [← eq']; exact hl) (by rw [← eq']; exact h1) (by rw [← eq']; exact hR)
  rw [← eq', ← ew] at ih
  have e : (tab (s + 1).toNat fun j => if p ≤ j then mn (fewL M q j) (fewL M q (j - p) + 1) else fewL M q j) = tab (s + 1).toNat (fewL M (q ++ [p])) := by
   refine tab_congr _ _ _ (fun j _ _ => ?_)
   rw [fewL_snoc]
   by_cases c : p ≤ j
   · rw [if_pos c]
   have := fewL_range M hM.1 q j
   rw [if_neg c, fewL_neg M hM.1 q (fun x hx => by have := h1 x (by simp [hx]); omega) (j - p) (by omega), mn_eq, if_neg (by omega)]
  rw [← e] at ih
  have hin := impl_FewestFor.ev_2 (R := R) (s + 1).toNat (by omega) s p hp (fewL M q) (fun j => by have := fewL_range M hM.1 q j; omega) (q ++ p :: t) ((q ++ p :: t).length : Int) (q.length : Int) ih (s + 1).toNat s (by omega) (by omega) (by omega)
  refine Ev.step (fun k => ?_) hin
  rw [impl_FewestFor.l1, if_pos (by simp <;> omega), if_pos (by omega), if_pos (by simp <;> omega), rd_app]
  congr 1
  refine tab_congr _ _ _ (fun j _ _ => ?_)
  rw [if_neg (by omega)]
theorem impl_FewestFor.ev_0 {R : Int × Bool} (l : List Int) (s : Int) (N : Nat) (hN : 1 ≤ N ∧ N ≤ 1000000) (next : Ev (fun k => impl_FewestFor.l1 k s (tab N fun j => if j = 0 then 0 else 21) l (l.length : Int) 0) R) : ∀ (d i : Nat), i + d = N → Ev (fun k => impl_FewestFor.l0 k l s (tab N fun j => if j < (i : Int) then 21 else 0) (N : Int) (i : Int)) R
 | 0, i, h => by
  refine Ev.step (fun k => ?_) next
  rw [impl_FewestFor.l0, if_neg (by omega), if_pos (by rw [tab_length]; omega), tab_set _ _ _ _ (by omega)]
  congr 1
  refine tab_congr _ _ _ (fun j _ _ => ?_)
  by_cases q : j = 0
  · rw [if_pos q, if_pos q]
  rw [if_neg q, if_neg q, if_pos (by omega)]
 | d + 1, i, h => by
  have ih := impl_FewestFor.ev_0 l s N hN next d (i + 1) (by omega)
  refine Ev.step (fun k => ?_) ih
  rw [impl_FewestFor.l0, if_pos (by omega), if_pos (by omega), if_pos (by rw [tab_length]; omega), tab_set _ _ _ _ (by omega), w64 (n := (i : Int) + 1) (by omega) (by omega)]
  congr 1
  refine tab_congr _ _ _ (fun j _ _ => ?_)
  by_cases q : j = (i : Int)
  · rw [if_pos q, if_pos (by omega)]
  rw [if_neg q]
  by_cases q2 : j < (i : Int)
  · rw [if_pos q2, if_pos (by omega)]
  rw [if_neg q2, if_neg (by omega)]
theorem tab_rep (N : Nat) (b : Int) : List.replicate N b = tab N (fun _ => b) := by
 apply List.ext_getElem
 · simp [tab]
 intro i h1 h2; simp [tab]
theorem impl_FewestFor.ev (l : List Int) (s : Int) (hl : l.length ≤ 9223372036854775806) : Ev (fun k => impl_FewestFor.f k l s) (fewB l s) := by
 unfold impl_FewestFor.f
 have no : fewB l s = (0, false) → Ev (fun k => impl_FewestFor.j0 k l s true) (fewB l s) := fun h => Ev.step (f := fun _ => some (0, false)) (fun k => by rw [impl_FewestFor.j0, if_pos rfl]) (Ev.val h.symm)
 refine Ev.bind (impl_isSum.ev l s hl) (Ev.ite (fun c => ?_) (fun c => no (by rw [fewB, if_neg (fun h => c h.1)])))
 obtain ⟨g, h0, h2⟩ := asked_facts c
 have hg := piGood_sum g
 have h1 : ∀ x ∈ l, 1 ≤ x := fun x hx => (hg.2.1 x hx).1
 have h1' : ∀ x ∈ l, 0 ≤ x := fun x hx => by have := h1 x hx; omega
 refine Ev.bind (impl_total.ev l (by omega) h1' (by omega)) ?_
 by_cases d : s > l.sum
 · rw [decide_eq_true d]
   exact no (by rw [fewB, if_neg (fun h => by have := cnt_above l h1' s (by omega); omega)])
 rw [decide_eq_false d]
 refine Ev.step (f := fun k => impl_FewestFor.l0 k l s (tab (s + 1).toNat fun j => if j < ((0 : Nat) : Int) then 21 else 0) ((s + 1).toNat : Int) ((0 : Nat) : Int)) (fun k => ?_) ?_
 · rw [impl_FewestFor.j0, if_neg (by decide), w64 (n := s + 1) (by omega) (by omega), if_pos (by omega), if_pos (by omega), Option.bind_some, tab_rep, tab_length]
   have e0 : (tab (s + 1).toNat fun _ => (0 : Int)) = tab (s + 1).toNat fun j => if j < ((0 : Nat) : Int) then 21 else 0 := tab_congr _ _ _ (fun j _ _ => by rw [if_neg (by omega)])
   rw [e0]; rfl
 refine impl_FewestFor.ev_0 l s (s + 1).toNat (by omega) ?_ (s + 1).toNat 0 (by omega)
 have e : (tab (s + 1).toNat fun j => if j = 0 then 0 else 21) = tab (s + 1).toNat (fewL 21 []) := tab_congr _ _ _ (fun j _ _ => rfl)
 rw [e]
 refine impl_FewestFor.ev_1 s h0 h2 21 (by omega) l [] hg.1 h1 ?_
 rw [List.nil_append, fewB]
 rcases fewL_cnt l 21 21 (by omega) (by omega) s with ⟨a, b, _⟩ | ⟨a, b, _⟩
 · rw [if_pos (by omega), if_neg (fun h => by omega)]
 rw [if_neg (by omega), if_pos ⟨c, a⟩]
theorem spec_FewestFor.ev_2 {R : Int × Bool} (N : Nat) (hN : N ≤ 1000000001) (s : Int) (p : Int) (hp : 1 ≤ p) (f : Int → Int) (hf : ∀ j, 0 ≤ f j ∧ f j ≤ 1000) (L : List Int) (n i : Int) (next : Ev (fun k => spec_FewestFor.l1 k s (tab N fun j => if p ≤ j then mn (f j) (f (j - p) + 1) else f j) L n (wrap64 (i + 1))) R) :
 ∀ (d : Nat) (x : Int), x < N → -1 ≤ x → x + 1 = d → Ev (fun k => spec_FewestFor.l2 k s (tab N fun j => if p ≤ j ∧ x < j then mn (f j) (f (j - p) + 1) else f j) p x L n i) R := by
 intro d
 have stop : ∀ x : Int, x < p → Ev (fun k => spec_FewestFor.l2 k s (tab N fun j => if p ≤ j ∧ x < j then mn (f j) (f (j - p) + 1) else f j) p x L n i) R := by
  intro x hx
  refine Ev.step (fun k => ?_) next
  rw [spec_FewestFor.l2, if_neg (by omega)]
  congr 1
  refine tab_congr _ _ _ (fun j _ _ => ?_)
  by_cases c : p ≤ j
  · rw [if_pos ⟨c, by omega⟩, if_pos c]
  rw [if_neg (by omega), if_neg c]
 induction d with
 | zero => intro x h1 h2 h3; exact stop x (by omega)
 | succ d ih =>
  intro x h1 h2 h3
  by_cases c : p ≤ x
  · have f1 := hf x
    have f2 := hf (x - p)
    have hle : spec_l1Least.f (f x) (f (x - p) + 1) = some (mn (f x) (f (x - p) + 1)) := by
     unfold spec_l1Least.f; rw [mn_eq]
     by_cases q : f x < f (x - p) + 1
     · rw [if_pos q, if_neg (by omega)]
     rw [if_neg q]
     by_cases q2 : f (x - p) + 1 < f x
     · rw [if_pos q2]
     rw [if_neg q2, show f (x - p) + 1 = f x by omega]
    refine Ev.step (fun k => ?_) (ih (x - 1) (by omega) (by omega) (by omega))
    rw [spec_FewestFor.l2, if_pos c, if_pos (by omega), if_pos (by rw [tab_length]; omega), w64 (n := x - p) (by omega) (by omega), if_pos (by omega), if_pos (by rw [tab_length]; omega), rd_tab _ _ _ (by omega) (by omega), rd_tab _ _ _ (by omega) (by omega), if_neg (by omega), if_neg (by omega), w64 (n := f (x - p) + 1) (by omega) (by omega), hle, Option.bind_some, w64 (n := x - 1) (by omega) (by omega), tab_set _ _ _ _ (by omega)]
    congr 1
    refine tab_congr _ _ _ (fun j _ _ => ?_)
    by_cases e : j = x
    · subst e; rw [if_pos rfl, if_pos ⟨c, by omega⟩]
    rw [if_neg e]
    by_cases e2 : p ≤ j ∧ x < j
    · rw [if_pos e2, if_pos ⟨by omega, by omega⟩]
    rw [if_neg e2, if_neg (by omega)]
  exact stop x (by omega)
theorem spec_FewestFor.ev_1 {R : Int × Bool} (s : Int) (N : Nat) (h0 : 0 ≤ s) (h2 : s < N) (hN : N ≤ 1000000) (M : Int) (hM : 0 ≤ M ∧ M ≤ 999) : ∀ (t q : List Int), (q ++ t).length ≤ 20 → (∀ x ∈ q ++ t, 1 ≤ x) → (((fewL M (q ++ t) s, true) : Int × Bool) = R) → Ev (fun k => spec_FewestFor.l1 k s (tab N (fewL M q)) (q ++ t) ((q ++ t).length : Int) (q.length : Int)) R
 | [], q, hl, h1, hR => by
  rw [List.append_nil] at hR ⊢
  refine Ev.step (f := fun _ => some R) (fun k => ?_) (Ev.val rfl)
  rw [spec_FewestFor.l1, if_neg (by omega), if_pos h0, if_pos (by rw [tab_length]; omega), rd_tab _ _ _ h0 (by omega), ← hR]
 | p :: t, q, hl, h1, hR => by
  have hll : q.length + (t.length + 1) ≤ 20 := by simpa using hl
  have hp := h1 p (by simp)
  have eq' : q ++ p :: t = (q ++ [p]) ++ t := by simp
  have ew : wrap64 ((q.length : Int) + 1) = ((q ++ [p]).length : Int) := by rw [w64 (by omega) (by omega)]; simp
  have ih := spec_FewestFor.ev_1 (R := R) s N h0 h2 hN M hM t (q ++ [p]) (by rw [← eq']; exact hl) (by rw [← eq']; exact h1) (by rw [← eq']; exact hR)
  rw [← eq', ← ew] at ih
  have e : (tab N fun j => if p ≤ j then mn (fewL M q j) (fewL M q (j - p) + 1) else fewL M q j) = tab N (fewL M (q ++ [p])) := by
   refine tab_congr _ _ _ (fun j _ _ => ?_)
   rw [fewL_snoc]
   by_cases c : p ≤ j
   · rw [if_pos c]
   have := fewL_range M hM.1 q j
   rw [if_neg c, fewL_neg M hM.1 q (fun x hx => by have := h1 x (by simp [hx]); omega) (j - p) (by omega), mn_eq, if_neg (by omega)]
  rw [← e] at ih
  have hin := spec_FewestFor.ev_2 (R := R) N (by omega) s p hp (fewL M q) (fun j => by have := fewL_range M hM.1 q j; omega) (q ++ p :: t) ((q ++ p :: t).length : Int) (q.length : Int) ih N ((N : Int) - 1) (by omega) (by omega) (by omega)
  refine Ev.step (fun k => ?_) hin
  rw [spec_FewestFor.l1, if_pos (by simp <;> omega), if_pos (by omega), if_pos (by simp <;> omega), rd_app, tab_length, w64 (n := (N : Int) - 1) (by omega) (by omega)]
  congr 1
  refine tab_congr _ _ _ (fun j _ _ => ?_)
  rw [if_neg (by omega)]
theorem spec_FewestFor.ev_0 {R : Int × Bool} (l : List Int) (s : Int) (N : Nat) (hN : 1 ≤ N ∧ N ≤ 1000000) (hl : l.length ≤ 20) (next : Ev (fun k => spec_FewestFor.l1 k s (tab N fun j => if j = 0 then 0 else (l.length : Int) + 1) l (l.length : Int) 0) R) : ∀ (d i : Nat), i + d = N → Ev (fun k => spec_FewestFor.l0 k l s (tab N fun j => if j < (i : Int) then (l.length : Int) + 1 else 0) (N : Int) (i : Int)) R
 | 0, i, h => by
  refine Ev.step (fun k => ?_) next
  rw [spec_FewestFor.l0, if_neg (by omega), if_pos (by rw [tab_length]; omega), tab_set _ _ _ _ (by omega)]
  congr 1
  refine tab_congr _ _ _ (fun j _ _ => ?_)
  by_cases q : j = 0
  · rw [if_pos q, if_pos q]
  rw [if_neg q, if_neg q, if_pos (by omega)]
 | d + 1, i, h => by
  have ih := spec_FewestFor.ev_0 l s N hN hl next d (i + 1) (by omega)
  refine Ev.step (fun k => ?_) ih
  rw [spec_FewestFor.l0, if_pos (by omega), if_pos (by omega), if_pos (by rw [tab_length]; omega), w64 (n := (l.length : Int) + 1) (by omega) (by omega), tab_set _ _ _ _ (by omega), w64 (n := (i : Int) + 1) (by omega) (by omega)]
  congr 1
  refine tab_congr _ _ _ (fun j _ _ => ?_)
  by_cases q : j = (i : Int)
  · rw [if_pos q, if_pos (by omega)]
  rw [if_neg q]
  by_cases q2 : j < (i : Int)
  · rw [if_pos q2, if_pos (by omega)]
  rw [if_neg q2, if_neg (by omega)]
theorem spec_FewestFor.ev (l : List Int) (s : Int) (hl : l.length ≤ 9223372036854775806) : Ev (fun k => spec_FewestFor.f k l s) (fewB l s) := by
 unfold spec_FewestFor.f
 have no : fewB l s = (0, false) → Ev (fun k => spec_FewestFor.j0 k l s true) (fewB l s) := fun h => Ev.step (f := fun _ => some (0, false)) (fun k => by rw [spec_FewestFor.j0, if_pos rfl]) (Ev.val h.symm)
 refine Ev.bind (spec_piAsked.ev l s hl) (Ev.ite (fun c => ?_) (fun c => no (by rw [fewB, if_neg (fun h => c h.1)])))
 obtain ⟨g, h0, h2⟩ := asked_facts c
 have hg := piGood_sum g
 have h1 : ∀ x ∈ l, 1 ≤ x := fun x hx => (hg.2.1 x hx).1
 have h1' : ∀ x ∈ l, 0 ≤ x := fun x hx => by have := h1 x hx; omega
 refine Ev.bind (spec_piMake.ev l s hg.1 h1 (by omega) h0) ?_
 have hn := cnt_nonneg l s
 by_cases d : cnt l s = 0
 · have e : (cnt l s == 0) = true := by simp [d]
   rw [e]
   exact no (by rw [fewB, if_neg (fun h => by omega)])
 have e : (cnt l s == 0) = false := by simp [d]
 have hr := cnt_range h1 (show 0 < cnt l s by omega)
 rw [e]
 refine Ev.step (f := fun k => (spec_piSum.f k l).bind fun t472 => (if 0 ≤ (wrap64 (t472 + 1)) then (if (wrap64 (t472 + 1) : Int).toNat ≤ 35184372088832 then ((some (List.replicate (wrap64 (t472 + 1) : Int).toNat 0 : List Int)).bind fun y473 => (spec_FewestFor.l0 k l s y473 (y473.length : Int) 0)) else (none)) else (none))) (fun k => by rw [spec_FewestFor.j0, if_neg (by decide)]) (Ev.bind (spec_piSum.ev l (by omega) h1' (by omega)) ?_)
 rw [w64 (n := l.sum + 1) (by omega) (by omega)]
 refine Ev.pos (by omega) (Ev.pos (by omega) (Ev.bindc rfl ?_))
 rw [tab_rep, tab_length]
 have e0 : (tab (l.sum + 1).toNat fun _ => (0 : Int)) = tab (l.sum + 1).toNat fun j => if j < ((0 : Nat) : Int) then (l.length : Int) + 1 else 0 := tab_congr _ _ _ (fun j _ _ => by rw [if_neg (by omega)])
 rw [e0]
 refine spec_FewestFor.ev_0 l s (l.sum + 1).toNat (by omega) hg.1 ?_ (l.sum + 1).toNat 0 (by omega)
 have e1 : (tab (l.sum + 1).toNat fun j => if j = 0 then 0 else (l.length : Int) + 1) = tab (l.sum + 1).toNat (fewL ((l.length : Int) + 1) []) := tab_congr _ _ _ (fun j _ _ => rfl)
 rw [e1]
 refine spec_FewestFor.ev_1 s (l.sum + 1).toNat h0 (by omega) (by omega) ((l.length : Int) + 1) (by omega) l [] hg.1 h1 ?_
 rw [List.nil_append, fewB, if_pos ⟨c, by omega⟩]
 rcases fewL_cnt l 21 ((l.length : Int) + 1) (by omega) (by omega) s with ⟨a, _, _⟩ | ⟨_, _, b⟩
 · exact absurd a d
 rw [b]
/-- The nearest of some numbers. -/
def closeL (a : Int) : List Int → Int → Int
 | [], b => b
 | x :: t, b => closeL a t (if mx (x - a) (a - x) < mx (b - a) (a - b) then x else b)
theorem mx_eq (a b : Int) : mx a b = if a < b then b else a := rfl
theorem closeL_mem (a : Int) : ∀ (l : List Int) (b : Int), closeL a l b ∈ b :: l
 | [], b => by simp [closeL]
 | x :: t, b => by
  have := closeL_mem a t (if mx (x - a) (a - x) < mx (b - a) (a - b) then x else b)
  rw [closeL]
  split at this
  · rename_i h; rw [if_pos h]; exact List.mem_cons_of_mem _ this
  rename_i h; rw [if_neg h]
  rcases List.mem_cons.1 this with e | e
  · rw [e]; simp
  exact List.mem_cons_of_mem _ (List.mem_cons_of_mem _ e)
theorem closeL_le (a : Int) : ∀ (l : List Int) (b : Int), (mx (closeL a l b - a) (a - closeL a l b) ≤ mx (b - a) (a - b)) ∧ ∀ x ∈ l, mx (closeL a l b - a) (a - closeL a l b) ≤ mx (x - a) (a - x)
 | [], b => by simp [closeL]
 | x :: t, b => by
  have h := closeL_le a t (if mx (x - a) (a - x) < mx (b - a) (a - b) then x else b)
  rw [closeL]
  generalize closeL a t (if mx (x - a) (a - x) < mx (b - a) (a - b) then x else b) = c at h ⊢
  split at h
  · refine ⟨by omega, fun y hy => ?_⟩
    rcases List.mem_cons.1 hy with e | e
    · rw [e]; exact h.1
    exact h.2 y e
  refine ⟨h.1, fun y hy => ?_⟩
  rcases List.mem_cons.1 hy with e | e
  · rw [e]; omega
  exact h.2 y e
theorem closeL_at {a : Int} {l : List Int} (b : Int) (h : a ∈ l) : closeL a l b = a := by
 have := (closeL_le a l b).2 a h
 rw [mx_eq, mx_eq] at this
 repeat (split at this)
 all_goals omega
def closeB (l : List Int) (s : Int) : Int × Bool := if (piGoodB l && inB s 0 200000) = true then (closeL s (sumsL l) 0, true) else (0, false)
theorem impl_ClosestSum.ev_l (a : Int) (ha : 0 ≤ a ∧ a ≤ 1000000) : ∀ (t p : List Int) (b : Int), p.length + t.length ≤ 1000000000 → (∀ x ∈ t, 0 ≤ x ∧ x ≤ 1000000) → 0 ≤ b ∧ b ≤ 1000000 → Ev (fun k => impl_ClosestSum.l0 k a b (p ++ t) ((p ++ t).length : Int) (p.length : Int)) (closeL a t b, true)
 | [], p, b, hp, ht, hb => Ev.step (f := fun _ => some (b, true)) (fun k => by rw [impl_ClosestSum.l0, if_neg (by simp)]) (Ev.val rfl)
 | x :: t, p, b, hp, ht, hb => by
  have hx := ht x (by simp)
  simp only [List.length_cons] at hp
  have ew : wrap64 ((p.length : Int) + 1) = ((p ++ [x]).length : Int) := by rw [w64 (by omega) (by omega)]; simp
  have ih := impl_ClosestSum.ev_l a ha t (p ++ [x]) (if mx (x - a) (a - x) < mx (b - a) (a - b) then x else b) (by simp; omega) (fun y hy => ht y (by simp [hy])) (by split <;> omega)
  refine Ev.step (fun k => ?_) ih
  rw [impl_ClosestSum.l0, if_pos (by simp <;> omega), if_pos (by omega), if_pos (by simp <;> omega), rd_app, w64 (n := x - a) (by omega) (by omega), w64 (n := a - x) (by omega) (by omega), w64 (n := b - a) (by omega) (by omega), w64 (n := a - b) (by omega) (by omega), ew]
  simp only [List.append_assoc, List.singleton_append]
  split <;> rfl
theorem impl_ClosestSum.ev (l : List Int) (s : Int) (hl : l.length ≤ 9223372036854775806) : Ev (fun k => impl_ClosestSum.f k l s) (closeB l s) := by
 unfold impl_ClosestSum.f
 refine Ev.bind (impl_isSum.ev l s hl) (Ev.ite (fun c => ?_) (fun c => Ev.val (by rw [closeB, if_neg c])))
 obtain ⟨g, h0, h2⟩ := asked_facts c
 have hg := piGood_sum g
 have h1 : ∀ x ∈ l, 1 ≤ x := fun x hx => (hg.2.1 x hx).1
 have hsl := sumsL_le l
 refine Ev.bind (impl_sums.ev l hg.1 h1 (by omega)) (Ev.eq (impl_ClosestSum.ev_l s (by omega) (sumsL l) [] 0 (by simp; omega) (fun x hx => ?_) (by omega)) (by rw [closeB, if_pos c]))
 have := cnt_range h1 ((mem_sumsL h1).1 hx); omega
theorem spec_l1Abs.val (p q : Int) (h : q = -p) (h0 : -1000000 ≤ p) (h1 : p ≤ 1000000) : spec_l1Abs.f p = some (mx p q) := by
 unfold spec_l1Abs.f spec_l1Most.f
 rw [w64 (by omega) (by omega), ← h, mx_eq]
 by_cases c : p > q
 · rw [if_pos c, if_neg (by omega)]; rfl
 rw [if_neg c]
 by_cases d : p < q
 · rw [if_pos d]; rfl
 rw [if_neg d, show q = p by omega]; rfl
theorem spec_ClosestSum.ev_l (a : Int) (ha : 0 ≤ a ∧ a ≤ 1000000) : ∀ (t p : List Int) (b : Int), p.length + t.length ≤ 1000000000 → (∀ x ∈ t, 0 ≤ x ∧ x ≤ 1000000) → 0 ≤ b ∧ b ≤ 1000000 → Ev (fun k => spec_ClosestSum.l0 k a b (p ++ t) ((p ++ t).length : Int) (p.length : Int)) (closeL a t b, true)
 | [], p, b, hp, ht, hb => Ev.step (f := fun _ => some (b, true)) (fun k => by rw [spec_ClosestSum.l0, if_neg (by simp)]) (Ev.val rfl)
 | x :: t, p, b, hp, ht, hb => by
  have hx := ht x (by simp)
  simp only [List.length_cons] at hp
  have ew : wrap64 ((p.length : Int) + 1) = ((p ++ [x]).length : Int) := by rw [w64 (by omega) (by omega)]; simp
  have ih := spec_ClosestSum.ev_l a ha t (p ++ [x]) (if mx (x - a) (a - x) < mx (b - a) (a - b) then x else b) (by simp; omega) (fun y hy => ht y (by simp [hy])) (by split <;> omega)
  refine Ev.step (fun k => ?_) ih
  rw [spec_ClosestSum.l0, if_pos (by simp <;> omega), if_pos (by omega), if_pos (by simp <;> omega), rd_app, w64 (n := x - a) (by omega) (by omega), w64 (n := b - a) (by omega) (by omega), spec_l1Abs.val (x - a) (a - x) (by omega) (by omega) (by omega), spec_l1Abs.val (b - a) (a - b) (by omega) (by omega) (by omega), Option.bind_some, Option.bind_some, ew]
  simp only [List.append_assoc, List.singleton_append]
  split <;> rfl
theorem spec_ClosestSum.ev (l : List Int) (s : Int) (hl : l.length ≤ 9223372036854775806) : Ev (fun k => spec_ClosestSum.f k l s) (closeB l s) := by
 unfold spec_ClosestSum.f
 refine Ev.bind (spec_piAsked.ev l s hl) (Ev.ite (fun c => ?_) (fun c => Ev.val (by rw [closeB, if_neg c])))
 obtain ⟨g, h0, h2⟩ := asked_facts c
 have hg := piGood_sum g
 have h1 : ∀ x ∈ l, 1 ≤ x := fun x hx => (hg.2.1 x hx).1
 have hsl := sumsL_le l
 refine Ev.bind (spec_piSums.ev l hg.1 h1 (by omega)) (Ev.eq (spec_ClosestSum.ev_l s (by omega) (sumsL l) [] 0 (by simp; omega) (fun x hx => ?_) (by omega)) (by rw [closeB, if_pos c]))
 have := cnt_range h1 ((mem_sumsL h1).1 hx); omega
theorem sm_p134 (l : List Int) (s : Int) (hl : l.length ≤ 30) : Ev (fun k => laws_FnSumsMade.p134 k l (closeB l s).1 (closeB l s).2) true := by
 unfold laws_FnSumsMade.p134
 refine Ev.ite (fun h => ?_) (fun _ => Ev.val rfl)
 have hA : (piGoodB l && inB s 0 200000) = true := by
  by_cases c : (piGoodB l && inB s 0 200000) = true
  · exact c
  rw [closeB, if_neg c] at h; cases h
 obtain ⟨g, h0, h2⟩ := asked_facts hA
 have hg := piGood_sum g
 have h1 : ∀ x ∈ l, 1 ≤ x := fun x hx => (hg.2.1 x hx).1
 have e : (closeB l s).1 = closeL s (sumsL l) 0 := by rw [closeB, if_pos hA]
 have hc : 0 < cnt l (closeL s (sumsL l) 0) := by
  rcases List.mem_cons.1 (closeL_mem s (sumsL l) 0) with q | q
  · rw [q, cnt_zero l h1]; omega
  exact (mem_sumsL h1).1 q
 have hr := cnt_range h1 hc
 have e2 : canMB l (closeL s (sumsL l) 0) = (true, true) := by
  rw [canMB, if_pos (by rw [g]; unfold inB; rw [decide_eq_true hr.1, decide_eq_true (by omega)]; rfl), decide_eq_true hc]
 rw [e]
 refine Ev.bind (Ev.eq (impl_CanMake.ev l _ (by omega)) e2) ?_
 exact Ev.val rfl
theorem sm_p96 (l : List Int) (s : Int) (hl : l.length ≤ 30) : Ev (fun k => laws_FnSumsMade.p96 k l s (wayB l s).1 (wayB l s).2 (wayB l s).1 (wayB l s).2 (canMB l s).1 (canMB l s).2 (canMB l s).1 (canMB l s).2) true := by
 have hs : ∀ (x : List Int), x.length ≤ 1000000 → Ev (fun k => laws_tSame.f k x x) true := fun x hx => Ev.eq (laws_tSame.ev x x (by omega)) (by simp)
 have hw : (wayB l s).1.length ≤ 1000 := by
  unfold wayB; split
  · have := fstW_length l s 0; simp only; omega
  simp
 unfold laws_FnSumsMade.p96
 refine Ev.bind (impl_WaysOf.ev l s (by omega)) (Ev.bind (spec_WaysOf.ev l s (by omega)) (Ev.bind (impl_FewestFor.ev l s (by omega)) (Ev.bind (spec_FewestFor.ev l s (by omega)) (Ev.bind (impl_ClosestSum.ev l s (by omega)) (Ev.bind (spec_ClosestSum.ev l s (by omega)) ?_)))))
 refine Ev.neg (by simp) (Ev.bind (hs _ (by omega)) (Ev.neg (by decide) (Ev.neg (by simp) (Ev.neg (by simp) (Ev.neg (by simp) (Ev.neg (by simp) (Ev.neg (by simp) (Ev.neg (by simp) (Ev.neg (by simp) (Ev.neg (by simp) ?_))))))))))
 by_cases hA : (piGoodB l && inB s 0 200000) = true
 · obtain ⟨g, h0, h2⟩ := asked_facts hA
   have hg := piGood_sum g
   have h1 : ∀ x ∈ l, 1 ≤ x := fun x hx => (hg.2.1 x hx).1
   have e1 : waysB l s = (cnt l s, true) := by rw [waysB, if_pos hA]
   have e2 : canMB l s = (decide (0 < cnt l s), true) := by rw [canMB, if_pos hA]
   have e3 : closeB l s = (closeL s (sumsL l) 0, true) := by rw [closeB, if_pos hA]
   have h134 := sm_p134 l s hl
   rw [e3] at h134
   rw [e1, e2, e3]
   refine Ev.neg (by simp) (Ev.neg (by simp) (Ev.bind (a := decide (0 < cnt l s)) (Ev.pos rfl (Ev.val rfl)) ?_))
   by_cases c : 0 < cnt l s
   · have e4 : wayB l s = (fstW l s 0, true) := by rw [wayB, if_pos ⟨hA, c⟩]
     have e5 : fewB l s = (fewL 21 l s, true) := by rw [fewB, if_pos ⟨hA, c⟩]
     have hr := cnt_range h1 c
     rw [e4, e5]
     refine Ev.neg (by simp [c]) (Ev.neg (by simp) (Ev.bind (a := false) (Ev.pos rfl (Ev.val (by simp [c]))) (Ev.neg (by decide) ?_)))
     unfold laws_FnSumsMade.p122
     have hin := fstW_in l s 0
     have hlen := fstW_length l s 0
     have htof := laws_tOf.ev l (fstW l s 0) (fun x hx => by have := hg.2.1 x hx; omega) (by omega) (fun x hx => by have := hin x hx; omega)
     have hsum : ofL' l (fstW l s 0) = s := fstW_sum l [] s c h1
     rw [hsum] at htof
     have hnear : closeL s (sumsL l) 0 = s := closeL_at 0 ((mem_sumsL h1).2 c)
     have hfew := fewL_way 21 (by omega) l s 0 h1 c
     have hways : waysB l (l.sum - s) = (cnt l s, true) := by
      rw [waysB, if_pos (by rw [g]; unfold inB; rw [decide_eq_true (by omega), decide_eq_true (by omega)]; rfl), cnt_sym]
     have hri := laws_tRises.ev (fstW l s 0) (by omega)
     rw [rises_of_pairwise _ (fstW_rises l s 0)] at hri
     refine Ev.pos rfl (Ev.bind htof (Ev.neg (by simp) (Ev.bind hri (Ev.neg (by decide) (Ev.neg (by simp; omega) (Ev.neg (by simp [hnear]) (Ev.bind (laws_tSum.ev l (by omega) (fun x hx => by have := h1 x hx; omega) (by omega)) ?_)))))))
     rw [w64 (n := l.sum - s) (by omega) (by omega)]
     exact Ev.bind (Ev.eq (impl_WaysOf.ev l (l.sum - s) (by omega)) hways) (Ev.pos rfl (Ev.neg (by simp) h134))
   have e4 : wayB l s = ([], false) := by rw [wayB, if_neg (fun h => c h.2)]
   have e5 : fewB l s = (0, false) := by rw [fewB, if_neg (fun h => c h.2)]
   rw [e4, e5]
   refine Ev.neg (by simp [c]) (Ev.neg (by simp) (Ev.bind (a := false) (Ev.pos rfl (Ev.val (by simp [c]))) (Ev.neg (by decide) ?_)))
   unfold laws_FnSumsMade.p122
   exact Ev.neg (by decide) h134
 have e1 : waysB l s = (0, false) := by rw [waysB, if_neg hA]
 have e2 : canMB l s = (false, false) := by rw [canMB, if_neg hA]
 have e3 : closeB l s = (0, false) := by rw [closeB, if_neg hA]
 have e4 : wayB l s = ([], false) := by rw [wayB, if_neg (fun h => hA h.1)]
 have e5 : fewB l s = (0, false) := by rw [fewB, if_neg (fun h => hA h.1)]
 have h134 := sm_p134 l s hl
 rw [e3] at h134
 rw [e1, e2, e3, e4, e5]
 refine Ev.neg (by simp) (Ev.neg (by simp) (Ev.bind (a := false) (Ev.neg (by decide) (Ev.val rfl)) (Ev.neg (by simp) (Ev.neg (by simp) (Ev.bind (a := false) (Ev.neg (by decide) (Ev.val rfl)) (Ev.neg (by decide) ?_))))))
 unfold laws_FnSumsMade.p122
 exact Ev.neg (by decide) h134
/-- What the half is asked to be. -/
def HalfOk (l : List Int) (a : Int) (m : List Int) (b : Bool) : Prop := b = true → piGoodB l = true ∧ a = l.sum ∧ l.sum % 2 = 0 ∧ 0 < cnt l (l.sum / 2) ∧ m = fstW l (l.sum / 2) 0
theorem sm_p84 {l1 : List Int} (B1 : BytesL l1) (l : List Int) (a : Int) (m : List Int) (b : Bool) (h : HalfOk l a m b) : Ev (fun k => laws_FnSumsMade.p84 k l1 l a m b) true := by
 unfold laws_FnSumsMade.p84
 refine Ev.bind (a := false) ?_ (Ev.neg (by decide) ?_)
 · refine Ev.ite (fun hb => ?_) (fun _ => Ev.val rfl)
   obtain ⟨g, rfl, hm, hc, rfl⟩ := h hb
   have hg := piGood_sum g
   have h1 : ∀ x ∈ l, 1 ≤ x := fun x hx => (hg.2.1 x hx).1
   have hin := fstW_in l (l.sum / 2) 0
   have hlen := fstW_length l (l.sum / 2) 0
   have htof := laws_tOf.ev l (fstW l (l.sum / 2) 0) (fun x hx => by have := hg.2.1 x hx; omega) (by omega) (fun x hx => by have := hin x hx; omega)
   have hsum : ofL' l (fstW l (l.sum / 2) 0) = l.sum / 2 := fstW_sum l [] (l.sum / 2) hc h1
   rw [hsum] at htof
   have hri := laws_tRises.ev (fstW l (l.sum / 2) 0) (by omega)
   rw [rises_of_pairwise _ (fstW_rises l _ 0)] at hri
   refine Ev.bind htof (Ev.bind (a := false) ?_ (Ev.val rfl))
   rw [w64 (n := 2 * (l.sum / 2)) (by omega) (by omega), show 2 * (l.sum / 2) = l.sum by omega]
   exact Ev.neg (by simp) (Ev.bind hri (Ev.val rfl))
 obtain ⟨r, s, hD, hl⟩ := drawCanMake_ev B1
 have hD' : Ev (fun k => spec_DrawFirstWay.f k l1) (r, s) := by unfold spec_DrawFirstWay.f; exact Ev.bind hD (Ev.now _)
 exact Ev.bind hD' (Ev.bind (impl_FirstWay.ev r s (by omega)) (Ev.bind (spec_FirstWay.ev r s (by omega)) (Ev.bind (impl_CanMake.ev r s (by omega)) (Ev.bind (spec_CanMake.ev r s (by omega)) (sm_p96 r s hl)))))
theorem sm_p73 {l1 : List Int} (B1 : BytesL l1) (l l6 : List Int) (b7 : Bool) (a10 a : Int) (m : List Int) (b : Bool) (h7 : b7 = true → piGoodB l = true ∧ l6 = sumsL l ∧ a10 = ((sumsL l).length : Int) ∧ a = l.sum) (h : HalfOk l a m b) : Ev (fun k => laws_FnSumsMade.p73 k l1 l l6 b7 a10 a m b) true := by
 unfold laws_FnSumsMade.p73
 refine Ev.ite (fun hb => ?_) (fun _ => sm_p84 B1 l a m b h)
 obtain ⟨g, rfl, rfl, rfl⟩ := h7 hb
 have hg := piGood_sum g
 have h1 : ∀ x ∈ l, 1 ≤ x := fun x hx => (hg.2.1 x hx).1
 have hsl := sumsL_le l
 have hri := laws_tRises.ev (sumsL l) (by omega)
 rw [rises_of_pairwise _ (sumsL_rises l)] at hri
 obtain ⟨r, er⟩ := sumsL_head h1
 obtain ⟨q, eq'⟩ := sumsL_last h1
 have hpos : 0 < (sumsL l).length := by rw [er]; simp
 have e0 : rd (sumsL l) 0 = 0 := by rw [er]; rfl
 have ql : (sumsL l).length = q.length + 1 := by rw [eq']; simp
 have e1 : rd (sumsL l) (((sumsL l).length : Int) - 1) = l.sum := by
  rw [ql, show (((q.length + 1 : Nat) : Int) - 1) = (q.length : Int) by omega, eq']
  exact rd_app q l.sum []
 refine Ev.neg (by simp) (Ev.bind hri (Ev.neg (by decide) (Ev.pos (by rw [decide_eq_true (by omega), decide_eq_true (by omega)]; rfl) (Ev.neg (by rw [e0]; decide) ?_))))
 rw [w64 (n := ((sumsL l).length : Int) - 1) (by omega) (by omega), e1]
 exact Ev.pos (by rw [decide_eq_true (by omega), decide_eq_true (by omega)]; rfl) (Ev.neg (by simp) (sm_p84 B1 l _ m b h))
theorem sm_l66 {l1 : List Int} (B1 : BytesL l1) (l l6 : List Int) (b7 : Bool) (a10 : Int) (m : List Int) (b : Bool) (g : piGoodB l = true) (h7 : b7 = true → piGoodB l = true ∧ l6 = sumsL l ∧ a10 = ((sumsL l).length : Int) ∧ l.sum = l.sum) (h : HalfOk l l.sum m b) : ∀ (t p : List Int), gapsL l = p ++ t → ∃ K, ∀ k n, K ≤ k → K ≤ n → laws_FnSumsMade.l66 k n l1 l l6 b7 a10 (gapsL l) l.sum m b (gapsL l) ((gapsL l).length : Int) (p.length : Int) = some true := by
 have hg := piGood_sum g
 have h1 : ∀ x ∈ l, 1 ≤ x := fun x hx => (hg.2.1 x hx).1
 have hgl := gapsL_le l
 intro t
 induction t with
 | nil =>
  intro p hp
  obtain ⟨K, hK⟩ := sm_p73 B1 l l6 b7 a10 l.sum m b (fun hb => ⟨(h7 hb).1, (h7 hb).2.1, (h7 hb).2.2.1, rfl⟩) h
  refine ⟨K + 1, fun k n hk hn => ?_⟩
  obtain ⟨n', rfl⟩ : ∃ n', n = n' + 1 := ⟨n - 1, by omega⟩
  rw [laws_FnSumsMade.l66, if_neg (by rw [hp]; simp)]
  exact hK k (by omega)
 | cons x t ih =>
  intro p hp
  have hpl : (gapsL l).length = p.length + (t.length + 1) := by rw [hp]; simp
  obtain ⟨K, hK⟩ := ih (p ++ [x]) (by rw [hp]; simp)
  have hx : x ∈ gapsL l := by rw [hp]; simp
  have hxm := (mem_gapsL h1).1 hx
  obtain ⟨K2, hK2⟩ := laws_tHas.ev (gapsL l) (l.sum - x) (by omega)
  replace hK2 : ∀ k, K2 ≤ k → laws_tHas.f k (gapsL l) (l.sum - x) = some (decide (l.sum - x ∈ gapsL l)) := hK2
  refine ⟨K + K2 + 1, fun k n hk hn => ?_⟩
  obtain ⟨n', rfl⟩ : ∃ n', n = n' + 1 := ⟨n - 1, by omega⟩
  have er : rd (gapsL l) (p.length : Int) = x := by rw [hp]; exact rd_app p x t
  rw [laws_FnSumsMade.l66, if_pos (by rw [decide_eq_true (by omega)]), if_pos (by rw [decide_eq_true (by omega), decide_eq_true (by omega)]; rfl), er, w64 (n := l.sum - x) (by omega) (by omega), hK2 k (by omega), Option.bind_some, decide_eq_true (gaps_sym h1 hx), if_neg (by decide)]
  unfold laws_FnSumsMade.p72
  have ew : wrap64 ((p.length : Int) + 1) = ((p ++ [x]).length : Int) := by rw [w64 (by omega) (by omega)]; simp
  rw [ew]
  exact hK k n' (by omega) (by omega)
theorem FnSumsMade : laws_FnSumsMade.Pure := by
 intro l0 l1 _ _ w0 _ _ w1
 refine Ev.rounds (g := fun k => laws_FnSumsMade.f k l0 l1) ?_
 unfold laws_FnSumsMade.f laws_FnSumsMade.p1
 by_cases hb : laws_big.f l0 l1 = some true
 · exact Ev.bindc hb (Ev.pos rfl (Ev.val rfl))
 obtain ⟨hl0, hl1, hb⟩ := big_no hb
 refine Ev.bindc hb (Ev.neg (by decide) ?_)
 have B0 := bytes_of hl0 w0
 have B1 := bytes_of hl1 w1
 obtain ⟨l, hD, hl⟩ := drawArePieces_ev B0
 have hD' : Ev (fun k => spec_DrawSumsOf.f k l0) l := by unfold spec_DrawSumsOf.f; exact Ev.bind hD (Ev.now _)
 refine Ev.bind hD' (Ev.bind (impl_SumsOf.ev l (by omega)) (Ev.bind (spec_SumsOf.ev l (by omega)) (Ev.bind (impl_CountSums.ev l (by omega)) (Ev.bind (spec_CountSums.ev l (by omega)) (Ev.bind (impl_RunOf.evS l (by omega)) (Ev.bind (spec_RunOf.evS l (by omega)) ?_))))))
 unfold laws_FnSumsMade.p11
 refine Ev.bind (impl_GapsOf.ev l (by omega)) (Ev.bind (spec_GapsOf.ev l (by omega)) (Ev.bind (impl_SumOfPieces.ev l (by omega)) (Ev.bind (spec_SumOfPieces.ev l (by omega)) (Ev.bind (impl_HalfOf.ev l (by omega)) (Ev.bind (spec_HalfOf.ev l (by omega)) ?_)))))
 have hs : ∀ (x : List Int), x.length ≤ 1000000 → Ev (fun k => laws_tSame.f k x x) true := fun x hx => Ev.eq (laws_tSame.ev x x (by omega)) (by simp)
 have hP := impl_ArePieces.ev l (by omega)
 have hP2 : Ev (fun k => spec_ArePieces.f k l) (piGoodB l) := by unfold spec_ArePieces.f; exact Ev.bind (spec_piGood.ev l (by omega)) (Ev.val rfl)
 have hgl := gapsL_le l
 have hsl := sumsL_le l
 by_cases g : piGoodB l = true
 · have hg := piGood_sum g
   have h1 : ∀ x ∈ l, 1 ≤ x := fun x hx => (hg.2.1 x hx).1
   have n1 : (if piGoodB l = true ∧ l.length ≤ 12 then (sumsL l, true) else (([] : List Int), false)).1.length ≤ 1000000 := by split <;> simp <;> omega
   have n2 : (gapsB l).1.length ≤ 1000000 := by unfold gapsB; split <;> simp <;> omega
   have n3 : (halfB l).1.length ≤ 1000000 := by
    unfold halfB; split
    · unfold firstB; split
      · have := fstW_length l (l.sum / 2) 0; simp only; omega
      simp
    simp
   have h7 : (if piGoodB l = true ∧ l.length ≤ 12 then (sumsL l, true) else (([] : List Int), false)).2 = true → piGoodB l = true ∧ (if piGoodB l = true ∧ l.length ≤ 12 then (sumsL l, true) else (([] : List Int), false)).1 = sumsL l ∧ ((sumsL l).length : Int) = ((sumsL l).length : Int) ∧ l.sum = l.sum := by
    intro h; split at h
    · rename_i q; rw [if_pos q]; exact ⟨g, rfl, rfl, rfl⟩
    cases h
   have hH : HalfOk l l.sum (halfB l).1 (halfB l).2 := by
    intro h
    unfold halfB at h ⊢
    split at h
    · rename_i q
      rw [if_pos q]
      unfold firstB at h ⊢
      split at h
      · rename_i q2; rw [if_pos q2]; exact ⟨g, rfl, q.2, q2, rfl⟩
      cases h
    cases h
   rw [if_pos g, if_pos g, if_pos g]
   generalize (if piGoodB l = true ∧ l.length ≤ 12 then (sumsL l, true) else (([] : List Int), false)) = sv at n1 h7 ⊢
   generalize halfB l = hv at n3 hH ⊢
   refine Ev.neg (by simp) (Ev.bind (hs _ n1) (Ev.neg (by decide) (Ev.neg (by simp) (Ev.neg (by simp) (Ev.neg (by simp) (Ev.neg (by simp) (Ev.neg (by simp) (Ev.bind (hs _ n2) (Ev.neg (by decide) (Ev.neg (by simp) (Ev.neg (by simp) (Ev.neg (by simp) (Ev.bind (hs _ n3) (Ev.neg (by decide) ?_))))))))))))))
   refine Ev.bind hP (Ev.neg (by rw [g]; simp) (Ev.bind hP (Ev.bind hP2 (Ev.neg (by simp) (Ev.neg (by simp) (Ev.neg (by simp) ?_))))))
   have tf : ∀ b : Bool, Ev (fun _ => if b = true then some (!true) else some false) false := fun b => Ev.ite (fun _ => Ev.val rfl) (fun _ => Ev.val rfl)
   refine Ev.bind (tf _) (Ev.neg (by decide) (Ev.bind (tf _) (Ev.neg (by decide) (Ev.bind (tf _) (Ev.neg (by decide) ?_)))))
   unfold laws_FnSumsMade.p46
   have hru := run_facts g
   have hsg := sums_gaps l
   have hsp : 0 < (sumsL l).length := by
    obtain ⟨r, er⟩ := sumsL_head h1
    rw [er]; simp
   have hsum := laws_tSum.ev l (by omega) (fun x hx => by have := h1 x hx; omega) (by omega)
   have hd47 : Ev (fun k => (laws_tSum.f k l).bind fun r49_0 => (if (l.sum != r49_0) = true then (some true) else (some (decide (l.sum < runL l 0)))).bind fun d50 => (if d50 = true then (some true) else (some (decide (((sumsL l).length : Int) < 1)))).bind fun d52 => (if d52 = true then (some true) else (some (decide ((wrap64 (l.sum + 1)) < ((sumsL l).length : Int))))).bind fun d54 => some d54) false := by
    refine Ev.bind hsum (Ev.bind (a := false) (Ev.neg (by simp) (Ev.val (decide_eq_false (by omega)))) (Ev.bind (a := false) (Ev.neg (by decide) (Ev.val (decide_eq_false (by omega)))) (Ev.bind (a := false) (Ev.neg (by decide) (Ev.val ?_)) (Ev.val rfl))))
    rw [w64 (n := l.sum + 1) (by omega) (by omega)]; exact decide_eq_false (by omega)
   refine Ev.bind (a := false) (Ev.pos rfl hd47) (Ev.neg (by decide) (Ev.ite (fun hq => ?_) (fun _ => sm_p73 B1 l _ _ _ l.sum _ _ h7 hH)))
   have e19 : gapsB l = (gapsL l, true) := by
    unfold gapsB at hq ⊢
    split at hq
    · rename_i q; rw [if_pos q]
    cases hq
   rw [e19]
   have hri := laws_tRises.ev (gapsL l) (by omega)
   rw [rises_of_pairwise _ (gapsL_rises l)] at hri
   dsimp only
   refine Ev.neg ?_ (Ev.bind hri (Ev.neg (by decide) (Ev.bind (a := false) ?_ (Ev.neg (by decide) (Ev.bind (a := false) ?_ (Ev.neg (by decide) ?_))))))
   · rw [w64 (n := ((sumsL l).length : Int) + ((gapsL l).length : Int)) (by omega) (by omega), w64 (n := l.sum + 1) (by omega) (by omega)]
     simp; omega
   · refine Ev.ite (fun hp => Ev.pos ?_ (Ev.val ?_)) (fun _ => Ev.val rfl)
     · rw [hp]; rfl
     rw [w64 (n := runL l 0 + 1) (by omega) (by omega)]
     rcases gaps_head g with ⟨e, _⟩ | ⟨r, e⟩
     · rw [e] at hp; simp at hp
     rw [e]; simp [rd]
   · refine Ev.ite (fun hp => Ev.val ?_) (fun _ => Ev.val rfl)
     rcases gaps_head g with ⟨_, e⟩ | ⟨r, e⟩
     · rw [e]; simp
     rw [e] at hp; simp at hp; omega
   obtain ⟨K, hK⟩ := sm_l66 B1 l sv.1 sv.2 ((sumsL l).length : Int) hv.1 hv.2 g h7 hH (gapsL l) [] rfl
   exact ⟨K, fun k hk => hK k k hk hk⟩
 have e1 : gapsB l = ([], false) := by rw [gapsB, if_neg (fun h => g h.1)]
 have e2 : halfB l = ([], false) := by rw [halfB, if_neg (fun h => g h.1)]
 have e3 : piGoodB l = false := by rw [Bool.not_eq_true] at g; exact g
 have hn := hs [] (by simp)
 rw [if_neg g, if_neg g, if_neg g, if_neg (fun h => g h.1), e1, e2]
 refine Ev.neg (by simp) (Ev.bind hn (Ev.neg (by decide) (Ev.neg (by simp) (Ev.neg (by simp) (Ev.neg (by simp) (Ev.neg (by simp) (Ev.neg (by simp) (Ev.bind hn (Ev.neg (by decide) (Ev.neg (by simp) (Ev.neg (by simp) (Ev.neg (by simp) (Ev.bind hn (Ev.neg (by decide) ?_))))))))))))))
 rw [e3] at hP hP2
 refine Ev.bind hP (Ev.neg (by decide) (Ev.bind hP (Ev.bind hP2 (Ev.neg (by decide) (Ev.neg (by decide) (Ev.neg (by decide) ?_))))))
 have tf : Ev (fun _ => if false = true then some (!false) else some false) false := Ev.neg (by decide) (Ev.val rfl)
 refine Ev.bind tf (Ev.neg (by decide) (Ev.bind tf (Ev.neg (by decide) (Ev.bind tf (Ev.neg (by decide) ?_)))))
 unfold laws_FnSumsMade.p46
 refine Ev.bind (a := false) (Ev.neg (by decide) (Ev.val rfl)) (Ev.neg (by decide) (Ev.neg (by decide) ?_))
 exact sm_p73 B1 l [] false 0 0 [] false (fun h => by cases h) (fun h => by cases h)
end Go.Proofs.Ytkbllhlmcfjcdaa.Pure
