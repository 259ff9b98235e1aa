/- For all arguments within the row's reach the law FnExactParsePieces answers true.
No further conditions. -/
import Derived.Test.YtocknmijghfafaaDoorPFnExactParsePiecesx0
import Derived.Test.YtocknmijghfafaaDoorPFnExactParsePiecesx1
import Derived.Test.YtocknmijghfafaaDoorPFnExactParsePiecesx2
import Derived.Test.YtocknmijghfafaaDoorPFnExactParsePiecesx3
set_option linter.unusedVariables false
set_option linter.unusedSimpArgs false
namespace Go.Proofs.YtocknmijghfafaaDoor.Pure
open Go.RowKit Go.Proofs.YtocknmijghfafaaDoor.PFnExactParsePieces Go.Proofs.YtocknmijghfafaaDoorW.PrintWords Go.Proofs.YtocknmijghfafaaDoorW.PrintLast Go.Proofs.YtocknmijghfafaaDoorW.PrintMore
theorem Ev.pos {α : Type} {c : Prop} [Decidable c] {g f : Nat → Option α} {r : α} (hc : c) (h : Ev g r) : Ev (fun k => if c then g k else f k) r := by
  obtain ⟨K, h⟩ := h
  exact ⟨K, fun k hk => by show (if c then g k else f k) = _; rw [if_pos hc]; exact h k hk⟩
theorem Ev.neg {α : Type} {c : Prop} [Decidable c] {g f : Nat → Option α} {r : α} (hc : ¬ c) (h : Ev f r) : Ev (fun k => if c then g k else f k) r := by
  obtain ⟨K, h⟩ := h
  exact ⟨K, fun k hk => by show (if c then g k else f k) = _; rw [if_neg hc]; exact h k hk⟩
theorem Ev.val {α : Type} {a r : α} (h : a = r) : Ev (fun _ => some a) r := ⟨0, fun _ _ => by rw [h]⟩
theorem Ev.const {α : Type} {a : Option α} {r : α} (h : a = some r) : Ev (fun _ => a) r := ⟨0, fun _ _ => h⟩
theorem Ev.bindc {α β : Type} {a : Option α} {f : Nat → α → Option β} {x : α} {r : β} (h : a = some x) (k : Ev (fun n => f n x) r) : Ev (fun n => a.bind (f n)) r := by
  obtain ⟨K, k⟩ := k
  exact ⟨K, fun n hn => by show a.bind (f n) = _; rw [h]; exact k n hn⟩
theorem Ev.eq {α : Type} {g : Nat → Option α} {r r' : α} (h : Ev g r) (e : r = r') : Ev g r' := e ▸ h
def inB (a b c : Int) : Bool := decide (b ≤ a) && decide (a ≤ c)
theorem Ev.ite {α : Type} {c : Prop} [Decidable c] {g f : Nat → Option α} {r : α} (h : c → Ev g r) (h' : ¬ c → Ev f r) : Ev (fun k => if c then g k else f k) r := by
  by_cases hc : c
  · exact Ev.pos hc (h hc)
  · exact Ev.neg hc (h' hc)
theorem rd_eq (l : List Int) (i : Nat) (h : i < l.length) : rd l (i : Int) = l[i] := by simp [rd, List.getD_eq_getElem?_getD, List.getElem?_eq_getElem h]
theorem rd_app (p : List Int) (x : Int) (s : List Int) : rd (p ++ x :: s) (p.length : Int) = x := by simp [rd, List.getD_eq_getElem?_getD]
theorem w64 {n : Int} (h0 : -9223372036854775808 ≤ n) (h1 : n ≤ 9223372036854775807) : wrap64 n = n := by unfold wrap64; omega
theorem laws_eqIntS.ev_l (s t : List Int) (hl : s.length ≤ 35184372088832) : ∀ (p : List Int), p.length + s.length ≤ 35184372088832 → s.length = t.length → ∀ q : List Int, q.length = p.length → Ev (fun k => laws_eqIntS.l0 k (p ++ s) (q ++ t) (p.length : Int)) (decide (s = t)) := by
  induction s generalizing t with
  | nil =>
    intro p hp ht q hq
    obtain rfl : t = [] := List.eq_nil_of_length_eq_zero (by simpa using ht.symm)
    refine Ev.step (f := fun _ => some true) (fun k => ?_) (Ev.val (by simp))
    rw [laws_eqIntS.l0, if_neg (by simp)]
  | cons x s ih =>
    intro p hp ht q hq
    obtain _ | ⟨y, t⟩ := t
    · simp at ht
    simp only [List.length_cons] at ht hp hl
    have e1 : rd (p ++ x :: s) (p.length : Int) = x := rd_app p x s
    have e2 : rd (q ++ y :: t) (p.length : Int) = y := by rw [← hq]; exact rd_app q y t
    by_cases e : x = y
    · subst e
      have h := ih t (by omega) (p ++ [x]) (by simp <;> omega) (by omega) (q ++ [x]) (by simp [hq])
      refine Ev.step (f := fun k => laws_eqIntS.l0 k ((p ++ [x]) ++ s) ((q ++ [x]) ++ t) ((p ++ [x]).length : Int)) (fun k => ?_) (Ev.eq h (by simp))
      rw [laws_eqIntS.l0, if_pos (by simp <;> omega), if_pos (by omega), if_pos (by simp <;> omega), e1, e2, if_pos rfl, w64 (by omega) (by omega)]
      simp
    · refine Ev.step (f := fun _ => some false) (fun k => ?_) (Ev.val (by simp [e]))
      rw [laws_eqIntS.l0, if_pos (by simp <;> omega), if_pos (by omega), if_pos (by simp <;> omega), e1, e2, if_neg e]
theorem laws_eqIntS.ev (s t : List Int) (hl : s.length ≤ 35184372088832) : Ev (fun k => laws_eqIntS.f k s t) (decide (s = t)) := by
  unfold laws_eqIntS.f
  refine Ev.ite (fun h => ?_) (fun h => Ev.val ?_)
  · exact laws_eqIntS.ev_l s t hl [] (by simpa using hl) (by omega) [] rfl
  · have : s ≠ t := by rintro rfl; exact h rfl
    simp [this]
theorem spec_l1In.val (a b c : Int) : spec_l1In.f a b c = some (decide (b ≤ a) && decide (a ≤ c)) := by
  unfold spec_l1In.f
  by_cases h : a ≥ b
  · rw [if_pos h]; simp [show b ≤ a from h]
  · rw [if_neg h]; simp [show ¬ b ≤ a from h]
theorem spec_l1In.valB (a b c : Int) : spec_l1In.f a b c = some (inB a b c) := spec_l1In.val a b c
theorem impl_within.val (a b c : Int) : impl_within.f a b c = some (decide (b ≤ a) && decide (a ≤ c)) := by
  unfold impl_within.f
  by_cases h : b ≤ a
  · rw [if_pos h]; simp [h]
  · rw [if_neg h]; simp [h]
theorem impl_within.valB (a b c : Int) : impl_within.f a b c = some (inB a b c) := impl_within.val a b c
theorem spec_l1All.ev_l (a b : Int) (s : List Int) : ∀ (p : List Int), p.length + s.length ≤ 9223372036854775807 → Ev (fun k => spec_l1All.l0 k a b (p ++ s) ((p ++ s).length : Int) (p.length : Int)) (s.all fun x => decide (a ≤ x) && decide (x ≤ b)) := by
  induction s with
  | nil =>
    intro p hp
    refine Ev.step (f := fun _ => some true) (fun k => ?_) (Ev.val (by simp))
    rw [spec_l1All.l0, if_neg (by simp)]
  | cons x s ih =>
    intro p hp
    simp only [List.length_cons] at hp
    have h := ih (p ++ [x]) (by simp <;> omega)
    by_cases c : (decide (a ≤ x) && decide (x ≤ b)) = true
    · refine Ev.step (f := fun k => spec_l1All.l0 k a b ((p ++ [x]) ++ s) (((p ++ [x]) ++ s).length : Int) ((p ++ [x]).length : Int)) (fun k => ?_) (Ev.eq h (by simp only [List.all_cons]; rw [c]; rfl))
      rw [spec_l1All.l0, if_pos (by simp <;> omega), if_pos (by omega), if_pos (by simp <;> omega), rd_app, spec_l1In.val, Option.bind_some, if_pos c, w64 (by omega) (by omega)]
      simp
    · refine Ev.step (f := fun _ => some false) (fun k => ?_) (Ev.val (by simp only [List.all_cons]; rw [Bool.not_eq_true] at c; rw [c]; rfl))
      rw [spec_l1All.l0, if_pos (by simp <;> omega), if_pos (by omega), if_pos (by simp <;> omega), rd_app, spec_l1In.val, Option.bind_some, if_neg c]
theorem spec_l1All.ev (l : List Int) (a b : Int) (hl : l.length ≤ 9223372036854775807) : Ev (fun k => spec_l1All.f k l a b) (l.all fun x => decide (a ≤ x) && decide (x ≤ b)) :=
  spec_l1All.ev_l a b l [] (by simpa using hl)
/-- No element is less than the one before. -/
def sortedB : List Int → Bool
  | [] => true
  | [_] => true
  | x :: y :: s => decide (x ≤ y) && sortedB (y :: s)
theorem sortedB_iff (l : List Int) : sortedB l = true ↔ ∀ i : Nat, ∀ h : i + 1 < l.length, l[i] ≤ l[i + 1] := by
  induction l with
  | nil => simp [sortedB]
  | cons x s ih =>
    cases s with
    | nil => simp [sortedB]
    | cons y s =>
      simp only [sortedB, Bool.and_eq_true, decide_eq_true_eq, ih]
      constructor
      · rintro ⟨h1, h2⟩ i hi
        cases i with
        | zero => exact h1
        | succ i => exact h2 i (by simpa using hi)
      · intro h
        exact ⟨h 0 (by simp), fun i hi => h (i + 1) (by simpa using hi)⟩
def piGoodB (l : List Int) : Bool := decide (l.length ≤ 20) && (l.all fun x => decide (1 ≤ x) && decide (x ≤ 10000)) && sortedB l
theorem spec_piGood.ev_l (s : List Int) : ∀ (p : List Int) (x : Int), p.length + s.length + 1 ≤ 9223372036854775806 → Ev (fun k => spec_piGood.l0 k (p ++ x :: s) ((p.length + 1 : Nat) : Int)) (sortedB (x :: s)) := by
  induction s with
  | nil =>
    intro p x hp
    refine Ev.step (f := fun _ => some true) (fun k => ?_) (Ev.val (by simp [sortedB]))
    rw [spec_piGood.l0, if_neg (by simp)]
  | cons y s ih =>
    intro p x hp
    simp only [List.length_cons] at hp
    have e1 : rd (p ++ x :: y :: s) (p.length : Int) = x := rd_app p x _
    have e2 : rd (p ++ x :: y :: s) ((p.length + 1 : Nat) : Int) = y := by
      have := rd_app (p ++ [x]) y s
      simpa using this
    have hw : wrap64 (((p.length + 1 : Nat) : Int) - 1) = (p.length : Int) := by rw [w64 (by omega) (by omega)]; omega
    by_cases c : x ≤ y
    · have h := ih (p ++ [x]) y (by simp <;> omega)
      refine Ev.step (f := fun k => spec_piGood.l0 k ((p ++ [x]) ++ y :: s) (((p ++ [x]).length + 1 : Nat) : Int)) (fun k => ?_) (Ev.eq h (by simp [sortedB, c]))
      rw [spec_piGood.l0, if_pos (by simp <;> omega), hw, if_pos (by omega), if_pos (by simp <;> omega), if_pos (by omega), e1, e2, if_neg (by omega), w64 (by omega) (by omega)]
      simp
    · refine Ev.step (f := fun _ => some false) (fun k => ?_) (Ev.val (by simp [sortedB, c]))
      rw [spec_piGood.l0, if_pos (by simp <;> omega), hw, if_pos (by omega), if_pos (by simp <;> omega), if_pos (by omega), e1, e2, if_pos (by omega)]
theorem spec_piGood.ev (l : List Int) (hl : l.length ≤ 9223372036854775806) : Ev (fun k => spec_piGood.f k l) (piGoodB l) := by
  unfold spec_piGood.f
  refine Ev.ite (fun h => ?_) (fun h => ?_)
  · refine Ev.step (f := fun _ => some false) (fun k => ?_) (Ev.val ?_)
    · rw [spec_piGood.j0, if_pos rfl]
    · unfold piGoodB; rw [decide_eq_false (by omega)]; rfl
  · refine Ev.bind (spec_l1All.ev l 1 10000 (by omega)) ?_
    by_cases c : (l.all fun x => decide (1 ≤ x) && decide (x ≤ 10000)) = true
    · refine Ev.step (f := fun k => spec_piGood.l0 k l 1) (fun k => ?_) ?_
      · rw [spec_piGood.j0, c, if_neg (by decide)]
      · have e : piGoodB l = sortedB l := by unfold piGoodB; rw [c, decide_eq_true (by omega)]; rfl
        rw [e]
        cases l with
        | nil =>
          refine Ev.step (f := fun _ => some true) (fun k => ?_) (Ev.val (by simp [sortedB]))
          rw [spec_piGood.l0, if_neg (by simp)]
        | cons x s => exact spec_piGood.ev_l s [] x (by simp at hl ⊢; omega)
    · rw [Bool.not_eq_true] at c
      refine Ev.step (f := fun _ => some false) (fun k => ?_) (Ev.val ?_)
      · rw [spec_piGood.j0, c, if_pos (by decide)]
      · unfold piGoodB; rw [c]; simp
theorem impl_areWithin.val (l : List Int) (a b : Int) : impl_areWithin.f l a b = some (l.all fun x => decide (a ≤ x) && decide (x ≤ b)) := rfl
theorem cmp_Less_int.val (a b : Int) : cmp_Less_int.f a b = some (decide (a < b)) := by simp [cmp_Less_int.f, cmp_isNaN_int.f]
theorem slices_IsSorted_int_int.ev_l (l : List Int) (hl : l.length ≤ 9223372036854775806) (i : Nat) : i < l.length → Ev (fun k => slices_IsSorted_int_int.l0 k l (i : Int)) (sortedB (l.take (i + 1))) := by
  induction i with
  | zero =>
    intro hi
    refine Ev.step (f := fun _ => some true) (fun k => ?_) (Ev.val ?_)
    · rw [slices_IsSorted_int_int.l0, if_neg (by omega)]
    · cases l with
      | nil => rfl
      | cons x s => simp [sortedB]
  | succ i ih =>
    intro hi
    have h := ih (by omega)
    have hw : wrap64 (((i + 1 : Nat) : Int) - 1) = (i : Int) := by rw [w64 (by omega) (by omega)]; omega
    have key : sortedB (l.take (i + 1 + 1)) = (decide (l[i] ≤ l[i + 1]) && sortedB (l.take (i + 1))) := by
      rw [Bool.eq_iff_iff, Bool.and_eq_true, decide_eq_true_eq, sortedB_iff, sortedB_iff]
      constructor
      · intro h
        refine ⟨by have := h i (by simp <;> omega); simpa using this, fun j hj => ?_⟩
        have hj' : j + 1 < i + 1 := by simp at hj; omega
        have := h j (by simp <;> omega)
        simpa using this
      · rintro ⟨h1, h2⟩ j hj
        have hj' : j + 1 < i + 1 + 1 := by simp at hj; omega
        by_cases e : j = i
        · subst e; simpa using h1
        · have := h2 j (by simp <;> omega)
          simpa using this
    by_cases c : l[i + 1] < l[i]
    · refine Ev.step (f := fun _ => some false) (fun k => ?_) (Ev.val (by rw [key, decide_eq_false (by omega)]; rfl))
      rw [slices_IsSorted_int_int.l0, if_pos (by omega), if_pos (by omega), if_pos (by omega), hw, if_pos (by omega), if_pos (by omega), rd_eq l _ hi, rd_eq l i (by omega), cmp_Less_int.val, Option.bind_some, if_pos (by simpa using c)]
    · refine Ev.step (f := fun k => slices_IsSorted_int_int.l0 k l (i : Int)) (fun k => ?_) (Ev.eq h (by rw [key, decide_eq_true (by omega)]; rfl))
      rw [slices_IsSorted_int_int.l0, if_pos (by omega), if_pos (by omega), if_pos (by omega), hw, if_pos (by omega), if_pos (by omega), rd_eq l _ hi, rd_eq l i (by omega), cmp_Less_int.val, Option.bind_some, if_neg (by simpa using c)]
theorem slices_IsSorted_int_int.ev (l : List Int) (hl : l.length ≤ 9223372036854775806) : Ev (fun k => slices_IsSorted_int_int.f k l) (sortedB l) := by
  unfold slices_IsSorted_int_int.f
  cases l with
  | nil =>
    refine Ev.step (f := fun _ => some true) (fun k => ?_) (Ev.val (by simp [sortedB]))
    rw [slices_IsSorted_int_int.l0, if_neg (by rw [w64 (by simp) (by simp)]; simp)]
  | cons x s =>
    have h := slices_IsSorted_int_int.ev_l (x :: s) hl s.length (by simp)
    have hw : wrap64 ((((x :: s).length : Nat) : Int) - 1) = (s.length : Int) := by
      simp only [List.length_cons] at hl ⊢
      rw [w64 (by omega) (by omega)]; omega
    rw [hw]
    refine Ev.eq h ?_
    rw [List.take_of_length_le (by simp)]
theorem ite_and (t x : Bool) : (if t = true then some x else some false) = some (t && x) := by cases t <;> rfl
def clueB (k a b : Int) : Bool :=
  if k = 0 then inB a 0 4 && b == 0
  else if k = 1 then inB a 0 24 && b == 0
  else if k = 3 then inB a 0 24 && b == 0
  else if k = 2 then inB a 0 24 && inB b 0 1
  else if k = 4 then inB a 0 24 && inB b 0 16
  else if k = 5 then inB a 1 6 && inB b 0 4
  else false
/-- Each element is greater than the one before. -/
def risesB : List Int → Bool
  | [] => true
  | [_] => true
  | x :: y :: s => decide (x < y) && risesB (y :: s)
theorem rises_of_pairwise : ∀ l : List Int, l.Pairwise (fun x y => x < y) → risesB l = true
  | [], _ => rfl
  | [_], _ => rfl
  | x :: y :: s, h => by
    rw [List.pairwise_cons] at h
    rw [risesB, rises_of_pairwise (y :: s) h.2, decide_eq_true (h.1 y (by simp))]; rfl
theorem impl_ArePieces.ev (l : List Int) (hl : l.length ≤ 9223372036854775806) : Ev (fun k => impl_ArePieces.f k l) (piGoodB l) := by
  unfold impl_ArePieces.f
  refine Ev.ite (fun h => ?_) (fun h => ?_)
  · refine Ev.bindc (impl_areWithin.val l 1 10000) ?_
    refine Ev.ite (fun c => ?_) (fun c => Ev.val ?_)
    · refine Ev.bind (slices_IsSorted_int_int.ev l hl) (Ev.val ?_)
      unfold piGoodB
      rw [decide_eq_true (by omega), c]; simp
    · unfold piGoodB
      rw [Bool.not_eq_true] at c
      rw [c]; simp
  · refine Ev.val ?_
    unfold piGoodB
    rw [decide_eq_false (by omega)]; rfl
def ruGoodB (l : List Int) : Bool := decide (2 ≤ l.length) && ((l.all fun x => inB x 0 60) && risesB l) && rd l 0 == 0
theorem risesB_head {x : Int} {s : List Int} (h : risesB (x :: s) = true) : ∀ y ∈ s, x < y := by
  induction s generalizing x with
  | nil => simp
  | cons z s ih =>
    simp only [risesB, Bool.and_eq_true, decide_eq_true_eq] at h
    intro y hy
    rcases List.mem_cons.1 hy with rfl | hy
    · exact h.1
    · have := ih h.2 y hy; omega
theorem risesB_last {l : List Int} (h : risesB l = true) (hne : l ≠ []) : ∀ y ∈ l, y ≤ l.getLast hne := by
  induction l with
  | nil => exact absurd rfl hne
  | cons x s ih =>
    intro y hy
    cases s with
    | nil => simp at hy; simp [hy]
    | cons z s =>
      have h2 : risesB (z :: s) = true := by simp only [risesB, Bool.and_eq_true] at h; exact h.2
      rw [List.getLast_cons (by simp)]
      rcases List.mem_cons.1 hy with rfl | hy
      · have h1 := risesB_head h z (by simp)
        have := ih h2 (by simp) z (by simp)
        omega
      · exact ih h2 (by simp) y hy
theorem rd_last (x : Int) (s : List Int) : rd (x :: s) (s.length : Int) = (x :: s).getLast (by simp) := by
  rw [List.getLast_eq_getElem, rd_eq (x :: s) s.length (by simp)]
  simp
theorem pairwise_of_rises : ∀ l : List Int, risesB l = true → l.Pairwise (fun x y => x < y)
  | [], _ => List.Pairwise.nil
  | x :: s, h => List.pairwise_cons.2 ⟨risesB_head h, pairwise_of_rises s (by
      cases s with
      | nil => rfl
      | cons y s => rw [risesB, Bool.and_eq_true] at h; exact h.2)⟩
def numsFrom : Nat → Int → List Int
  | 0, _ => []
  | n + 1, m => m :: numsFrom n (m + 1)
theorem rd_set (p : List Int) (x y : Int) (s : List Int) : (p ++ x :: s).set (p.length : Int).toNat y = p ++ y :: s := by
  rw [Int.toNat_natCast, List.set_append_right _ _ (Nat.le_refl _)]; simp
theorem laws_markIntS.ev_l (s : List Int) : ∀ (p : List Int) (a : Int), p.length + s.length ≤ 1000000000000000000 → 0 ≤ a → a + s.length ≤ 4000000000000000000 → Ev (fun k => laws_markIntS.l0 k (p ++ s) a (p.length : Int)) (a + s.length, p ++ numsFrom s.length a) := by
  induction s with
  | nil =>
    intro p a hp h0 h1
    refine Ev.step (f := fun _ => some (a, p ++ [])) (fun k => ?_) (Ev.val (by simp [numsFrom]))
    rw [laws_markIntS.l0, if_neg (by simp)]
  | cons x s ih =>
    intro p a hp h0 h1
    simp only [List.length_cons] at hp h1
    have h := ih (p ++ [a]) (a + 1) (by simp; omega) (by omega) (by omega)
    refine Ev.step (f := fun k => laws_markIntS.l0 k ((p ++ [a]) ++ s) (a + 1) ((p ++ [a]).length : Int)) (fun k => ?_) (Ev.eq h ?_)
    · rw [laws_markIntS.l0, if_pos (by simp <;> omega), if_pos (by omega), rd_set, w64 (n := a + 1) (by omega) (by omega), w64 (by omega) (by omega)]
      simp
    · simp [numsFrom]; omega
theorem laws_markIntS.ev (l : List Int) (hl : l.length ≤ 1000000000000000000) : Ev (fun k => laws_markIntS.f k l 1) ((1 + l.length : Int), numsFrom l.length 1) := by
  unfold laws_markIntS.f
  exact laws_markIntS.ev_l l [] 1 (by simpa using hl) (by omega) (by omega)
theorem laws_heldIntS.ev_l : ∀ (n : Nat) (p : List Int) (a : Int), p.length + n ≤ 1000000000000000000 → 0 ≤ a → a + n ≤ 4000000000000000000 → Ev (fun k => laws_heldIntS.l0 k (p ++ numsFrom n a) a (p.length : Int)) (a + n) := by
  intro n
  induction n with
  | zero =>
    intro p a hp h0 h1
    refine Ev.step (f := fun _ => some a) (fun k => ?_) (Ev.val (by simp))
    rw [laws_heldIntS.l0, if_neg (by simp [numsFrom])]
  | succ n ih =>
    intro p a hp h0 h1
    have h := ih (p ++ [a]) (a + 1) (by simp; omega) (by omega) (by omega)
    refine Ev.step (f := fun k => laws_heldIntS.l0 k ((p ++ [a]) ++ numsFrom n (a + 1)) (a + 1) ((p ++ [a]).length : Int)) (fun k => ?_) (Ev.eq h (by omega))
    simp only [numsFrom]
    rw [laws_heldIntS.l0, if_pos (by simp <;> omega), if_pos (by omega), rd_app, if_pos rfl, w64 (n := a + 1) (by omega) (by omega), w64 (by omega) (by omega)]
    simp
theorem laws_heldIntS.ev (n : Nat) (hn : n ≤ 1000000000000000000) : Ev (fun k => laws_heldIntS.f k (numsFrom n 1) 1) (1 + n : Int) := by
  unfold laws_heldIntS.f
  exact laws_heldIntS.ev_l n [] 1 (by simpa using hn) (by omega) (by omega)
/-- A table of N values. -/
def tab (N : Nat) (f : Int → Int) : List Int := (List.range N).map fun (i : Nat) => f (i : Int)
theorem tab_length (N : Nat) (f : Int → Int) : (tab N f).length = N := by simp [tab]
theorem rd_tab (N : Nat) (f : Int → Int) (i : Int) (h0 : 0 ≤ i) (h1 : i < N) : rd (tab N f) i = f i := by
  obtain ⟨n, rfl⟩ := Int.eq_ofNat_of_zero_le h0
  rw [rd_eq _ _ (by rw [tab_length]; omega)]
  simp [tab]
theorem tab_congr (N : Nat) (f g : Int → Int) (h : ∀ i : Int, 0 ≤ i → i < N → f i = g i) : tab N f = tab N g := by
  unfold tab
  apply List.map_congr_left
  intro i hi
  exact h i (by omega) (by have := List.mem_range.1 hi; omega)
theorem tab_set (N : Nat) (f : Int → Int) (i : Int) (v : Int) (h0 : 0 ≤ i) : (tab N f).set i.toNat v = tab N (fun j => if j = i then v else f j) := by
  obtain ⟨n, rfl⟩ := Int.eq_ofNat_of_zero_le h0
  apply List.ext_getElem?
  intro j
  unfold tab
  by_cases hj : j < N
  · by_cases e : n = j
    · subst e
      simp [hj]
    · rw [List.getElem?_set_ne (by simpa using e)]
      simp [hj]
      omega
  · rw [List.getElem?_eq_none (by simp; omega), List.getElem?_eq_none (by simp; omega)]
/-- How many ways there are to make s of some of the pieces. -/
def cnt : List Int → Int → Int
  | [], s => if s = 0 then 1 else 0
  | x :: t, s => cnt t s + cnt t (s - x)
theorem cnt_snoc (l : List Int) (n s : Int) : cnt (l ++ [n]) s = cnt l s + cnt l (s - n) := by
  induction l generalizing s with
  | nil => simp [cnt]
  | cons x t ih =>
    simp only [List.cons_append, cnt, ih]
    rw [show s - x - n = s - n - x by omega]; omega
theorem cnt_nonneg (l : List Int) (s : Int) : 0 ≤ cnt l s := by
  induction l generalizing s with
  | nil => unfold cnt; split <;> omega
  | cons x t ih => have h1 := ih s; have h2 := ih (s - x); unfold cnt; omega
theorem cnt_le (l : List Int) (s : Int) : cnt l s ≤ 2 ^ l.length := by
  induction l generalizing s with
  | nil => unfold cnt; split <;> simp
  | cons x t ih =>
    have h1 := ih s; have h2 := ih (s - x)
    unfold cnt
    rw [List.length_cons, Int.pow_succ]; omega
theorem cnt_neg (l : List Int) (hl : ∀ x ∈ l, 0 ≤ x) (s : Int) (h : s < 0) : cnt l s = 0 := by
  induction l generalizing s with
  | nil => unfold cnt; rw [if_neg (by omega)]
  | cons x t ih =>
    have hx := hl x (by simp)
    unfold cnt
    rw [ih (fun y hy => hl y (by simp [hy])) s h, ih (fun y hy => hl y (by simp [hy])) (s - x) (by omega)]; rfl
theorem sum_nonneg (l : List Int) (hl : ∀ x ∈ l, 0 ≤ x) : 0 ≤ l.sum := by
  induction l with
  | nil => simp
  | cons x t ih =>
    have hx := hl x (by simp)
    have := ih (fun y hy => hl y (by simp [hy]))
    rw [List.sum_cons]; omega
theorem cnt_above (l : List Int) (hl : ∀ x ∈ l, 0 ≤ x) (s : Int) (h : l.sum < s) : cnt l s = 0 := by
  induction l generalizing s with
  | nil => unfold cnt; rw [if_neg (by simp at h; omega)]
  | cons x t ih =>
    have hx := hl x (by simp)
    rw [List.sum_cons] at h
    unfold cnt
    rw [ih (fun y hy => hl y (by simp [hy])) s (by omega), ih (fun y hy => hl y (by simp [hy])) (s - x) (by omega)]; rfl
theorem pow_le_20 {n : Nat} (h : n ≤ 20) : (2 : Int) ^ n ≤ 1048576 := by
  have : (2 : Nat) ^ n ≤ 2 ^ 20 := Nat.pow_le_pow_right (by omega) h
  have e : ((2 : Int) ^ n) = ((2 ^ n : Nat) : Int) := by simp
  rw [e]; omega
theorem sum_le (l : List Int) (B : Int) (hl : ∀ x ∈ l, x ≤ B) : l.sum ≤ l.length * B := by
  induction l with
  | nil => simp
  | cons x t ih =>
    have hx := hl x (by simp)
    have := ih (fun y hy => hl y (by simp [hy]))
    rw [List.sum_cons, List.length_cons]
    have e : ((t.length + 1 : Nat) : Int) * B = t.length * B + B := by
      rw [show ((t.length + 1 : Nat) : Int) = (t.length : Int) + 1 by omega, Int.add_mul]; omega
    omega
/-- Up to where all sums can be made of pieces in order. -/
def runL : List Int → Int → Int
  | [], a => a
  | x :: t, a => if x > a + 1 then a else runL t (a + x)
/-- What a clue of a kind tells of pieces. -/
def pzV (kind a : Int) (l : List Int) : Int :=
  if kind = 0 then (l.length : Int) else if kind = 1 then l.sum else if kind = 2 then (if cnt l a < 1 then cnt l a else 1) else if kind = 3 then runL l 0 else if kind = 4 then cnt l a else (l.count a : Int)
/-- The integers in order. -/
def sortL (l : List Int) : List Int := l.mergeSort fun x y => decide (x ≤ y)
theorem perm_sorted_eq : ∀ (a b : List Int), a.Perm b → a.Pairwise (fun x y => x ≤ y) → b.Pairwise (fun x y => x ≤ y) → a = b
  | [], b, h, _, _ => (List.nil_perm.1 h).symm
  | x :: a, [], h, _, _ => absurd h.length_eq (by simp)
  | x :: a, y :: b, h, ha, hb => by
    rw [List.pairwise_cons] at ha hb
    have hy : y ∈ x :: a := h.symm.subset (by simp)
    have hx : x ∈ y :: b := h.subset (by simp)
    have e : x = y := by
      rcases List.mem_cons.1 hy with e1 | e1
      · exact e1.symm
      · rcases List.mem_cons.1 hx with e2 | e2
        · exact e2
        · have := ha.1 y e1; have := hb.1 x e2; omega
    subst e
    rw [perm_sorted_eq a b (List.Perm.cons_inv h) ha.2 hb.2]
theorem sortL_perm (l : List Int) : (sortL l).Perm l := List.mergeSort_perm l _
theorem sortL_sorted (l : List Int) : (sortL l).Pairwise (fun x y => x ≤ y) := by
  have h := List.pairwise_mergeSort (le := fun x y : Int => decide (x ≤ y)) (fun a b c h1 h2 => by simp at *; omega) (fun a b => by simp; omega) l
  exact h.imp (fun h => of_decide_eq_true h)
theorem sortL_length (l : List Int) : (sortL l).length = l.length := (sortL_perm l).length_eq
/-- The pieces along a chain. -/
def partsL (links : Int) : List Int → Int → List Int
  | [], n => if n < links then [links - n] else []
  | c :: s, n => if n < c then (c - n) :: 1 :: partsL links s (c + 1) else 1 :: partsL links s (c + 1)
theorem partsL_length (links : Int) : ∀ (s : List Int) (n : Int), (partsL links s n).length ≤ 2 * s.length + 1
  | [], n => by rw [partsL]; split <;> simp
  | c :: s, n => by
    have := partsL_length links s (c + 1)
    rw [partsL]
    split <;> simp <;> omega
theorem partsL_pos (links : Int) (hl : 1 ≤ links) (s : List Int) : 0 < (partsL links s 0).length := by
  cases s with
  | nil => rw [partsL, if_pos (by omega)]; simp
  | cons c s => rw [partsL]; split <;> simp
theorem partsL_ge (links : Int) : ∀ (s : List Int) (n : Int), (∀ x ∈ partsL links s n, 1 ≤ x)
  | [], n, x, hx => by
    rw [partsL] at hx
    split at hx
    · simp at hx; omega
    · simp at hx
  | c :: s, n, x, hx => by
    have := partsL_ge links s (c + 1)
    rw [partsL] at hx
    split at hx
    · simp at hx
      rcases hx with h | h | h
      · omega
      · omega
      · exact this x h
    · simp at hx
      rcases hx with h | h
      · omega
      · exact this x h
theorem partsL_le (links : Int) (hl : links ≤ 1000) : ∀ (s : List Int) (n : Int), 0 ≤ n → (∀ x ∈ s, 0 ≤ x ∧ x ≤ 1000) → (∀ x ∈ partsL links s n, x ≤ 1000)
  | [], n, hn, hs, x, hx => by
    rw [partsL] at hx
    split at hx
    · simp at hx; omega
    · simp at hx
  | c :: s, n, hn, hs, x, hx => by
    have hc := hs c (by simp)
    have := partsL_le links hl s (c + 1) (by omega) (fun y hy => hs y (by simp [hy]))
    rw [partsL] at hx
    split at hx
    · simp at hx
      rcases hx with h | h | h
      · omega
      · omega
      · exact this x h
    · simp at hx
      rcases hx with h | h
      · omega
      · exact this x h
def cutsB (a : Int) (l : List Int) : Bool := inB a 1 1000 && (decide (l.length ≤ 9) && ((l.all fun x => inB x 0 (a - 1)) && risesB l))
theorem cutsB_in {a : Int} {l : List Int} (h : cutsB a l = true) : 1 ≤ a ∧ a ≤ 1000 ∧ l.length ≤ 9 ∧ ∀ x ∈ l, 0 ≤ x ∧ x ≤ a - 1 := by
  unfold cutsB inB at h
  simp at h
  exact ⟨h.1.1, h.1.2, h.2.1, h.2.2.1⟩
theorem cutsB_in' {a : Int} {l : List Int} (h : cutsB a l = true) : ∀ x ∈ l, 0 ≤ x ∧ x ≤ 1000 := fun x hx => by
  obtain ⟨_, h2, _, h4⟩ := cutsB_in h
  have := h4 x hx; omega
theorem setL (p : List (List Int)) (x y : List Int) (s : List (List Int)) : (p ++ x :: s).set (p.length : Int).toNat y = p ++ y :: s := by
  rw [Int.toNat_natCast, List.set_append_right _ _ (Nat.le_refl _)]; simp
/-! ### Bytes cut at a byte; decimal numbers read -/
def baL (l : List UInt8) : ByteArray := ⟨l.toArray⟩
theorem baL_list (l : List UInt8) : (baL l).data.toList = l := by simp [baL]
theorem baL_toList (l : List UInt8) : (baL l).toList = l := by rw [Lib.toList_data, baL_list]
theorem baL_size (l : List UInt8) : (baL l).size = l.length := by simp [baL, ByteArray.size]
theorem baL_of (a : ByteArray) : ∃ l, a = baL l := ⟨a.data.toList, by cases a; simp [baL]⟩
theorem baL_ext {a b : ByteArray} (h : a.data.toList = b.data.toList) : a = b := by
  cases a; cases b; simp only [ByteArray.mk.injEq]; exact Array.toList_inj.1 h
theorem baL_inj {a b : List UInt8} (h : baL a = baL b) : a = b := by have := congrArg (·.data.toList) h; simpa [baL_list] using this
theorem baL_ext' (l : List UInt8) (i j : Nat) : (baL l).extract i j = baL ((l.drop i).take (j - i)) := baL_ext (by rw [Lib.extract_data, baL_list, baL_list])
theorem bt_baL (p : List UInt8) (x : UInt8) (s : List UInt8) : bt (baL (p ++ x :: s)) (p.length : Int) = (x.toNat : Int) := by
  unfold bt
  have h : (p.length : Int).toNat < (baL (p ++ x :: s)).size := by rw [baL_size]; simp
  rw [dif_pos h]
  have e : (baL (p ++ x :: s))[(p.length : Int).toNat]'h = x := by
    show (baL (p ++ x :: s)).data[(p.length : Int).toNat]'h = x
    simp [baL]
  rw [e]
theorem rdOf_app (p : List ByteArray) (x : ByteArray) (s : List ByteArray) : rdOf ByteArray.empty (p ++ x :: s) (p.length : Int) = x := by simp [rdOf, List.getD_eq_getElem?_getD]
def splA (c : UInt8) : List UInt8 → List UInt8 → List (List UInt8)
  | cur, [] => [cur]
  | cur, x :: s => if x = c then cur :: splA c [] s else splA c (cur ++ [x]) s
def splitL (c : UInt8) (l : List UInt8) : List (List UInt8) := splA c [] l
theorem splA_ne (c : UInt8) : ∀ (s cur : List UInt8), 0 < (splA c cur s).length
  | [], _ => by simp [splA]
  | x :: s, cur => by
    unfold splA
    split
    · simp
    · exact splA_ne c s _
theorem splA_no (c : UInt8) : ∀ (w cur : List UInt8), c ∉ w → splA c cur w = [cur ++ w]
  | [], cur, _ => by simp [splA]
  | x :: w, cur, h => by
    simp only [List.mem_cons, not_or] at h
    unfold splA
    rw [if_neg (fun e => h.1 e.symm), splA_no c w _ h.2]
    simp
theorem splA_hit (c : UInt8) : ∀ (w cur s : List UInt8), c ∉ w → splA c cur (w ++ c :: s) = (cur ++ w) :: splA c [] s
  | [], cur, s, _ => by simp [splA]
  | x :: w, cur, s, h => by
    simp only [List.mem_cons, not_or] at h
    rw [List.cons_append, splA, if_neg (fun e => h.1 e.symm), splA_hit c w _ s h.2]
    simp
theorem splA_size (c : UInt8) (m : Nat) : ∀ (s cur : List UInt8), (∀ w ∈ splA c cur s, w.length ≤ m) → cur.length + s.length + 1 ≤ (splA c cur s).length * (m + 1)
  | [], cur, h => by
    have := h cur (by simp [splA])
    simp [splA]; omega
  | x :: s, cur, h => by
    unfold splA at h ⊢
    by_cases e : x = c
    · rw [if_pos e] at h ⊢
      have h1 := h cur (by simp)
      have h2 := splA_size c m s [] (fun w hw => h w (List.mem_cons_of_mem _ hw))
      simp only [List.length_cons, List.length_nil] at h2 ⊢
      rw [Nat.add_mul]; omega
    · rw [if_neg e] at h ⊢
      have h2 := splA_size c m s (cur ++ [x]) h
      simp only [List.length_append, List.length_cons, List.length_nil] at h2 ⊢
      omega
theorem splA_count (c : UInt8) : ∀ (s cur : List UInt8), (splA c cur s).length ≤ s.length + 1
  | [], _ => by simp [splA]
  | x :: s, cur => by
    unfold splA
    split
    · have := splA_count c s []; simp; omega
    · have := splA_count c s (cur ++ [x]); simp; omega
theorem first_of (c : UInt8) : ∀ l : List UInt8, c ∉ l ∨ ∃ w s, l = w ++ c :: s ∧ c ∉ w
  | [] => .inl (by simp)
  | x :: l => by
    by_cases e : x = c
    · exact .inr ⟨[], l, by simp [e], by simp⟩
    · rcases first_of c l with h | ⟨w, s, rfl, h⟩
      · exact .inl (by simp only [List.mem_cons, not_or]; exact ⟨fun q => e q.symm, h⟩)
      · exact .inr ⟨x :: w, s, rfl, by simp only [List.mem_cons, not_or]; exact ⟨fun q => e q.symm, h⟩⟩
theorem idx_no (c : UInt8) : ∀ w : List UInt8, c ∉ w → Lib.index w [c] = -1
  | [], _ => rfl
  | x :: w, h => by
    simp only [List.mem_cons, not_or] at h
    unfold Lib.index
    have e : ([c] : List UInt8).isPrefixOf (x :: w) = false := by simp [List.isPrefixOf, h.1]
    rw [e, idx_no c w h.2]; rfl
theorem idx_hit (c : UInt8) : ∀ w s : List UInt8, c ∉ w → Lib.index (w ++ c :: s) [c] = w.length
  | [], s, _ => by
    unfold Lib.index
    simp [List.isPrefixOf]
  | x :: w, s, h => by
    simp only [List.mem_cons, not_or] at h
    rw [List.cons_append, Lib.index]
    have e : ([c] : List UInt8).isPrefixOf (x :: (w ++ c :: s)) = false := by simp [List.isPrefixOf, h.1]
    rw [e, idx_hit c w s h.2]
    have : ((w.length : Int) == -1) = false := by rw [beq_eq_false_iff_ne]; omega
    simp [this]
theorem splitK_all (c : UInt8) : ∀ (k : Nat) (l : List UInt8), (splitL c l).length ≤ k + 1 → Lib.splitK [c] 0 k l = splitL c l
  | 0, l, h => by
    rcases first_of c l with h1 | ⟨w, s, rfl, h1⟩
    · rw [splitL, splA_no c l [] h1]; rfl
    · rw [splitL, splA_hit c w [] s h1] at h
      have := splA_ne c s []
      simp only [List.length_cons] at h; omega
  | k + 1, l, h => by
    rcases first_of c l with h1 | ⟨w, s, rfl, h1⟩
    · rw [splitL, splA_no c l [] h1, Lib.splitK, idx_no c l h1]; simp
    · rw [splitL, splA_hit c w [] s h1] at h
      rw [splitL, splA_hit c w [] s h1, Lib.splitK, idx_hit c w s h1]
      have : ((w.length : Int) == -1) = false := by rw [beq_eq_false_iff_ne]; omega
      rw [this]
      have e2 : (w ++ c :: s).drop ((w.length : Int).toNat + [c].length) = s := by simp
      rw [e2, splitK_all c k s (by simp only [List.length_cons] at h; unfold splitL; omega)]
      simp [splitL]
theorem splitK_more (c : UInt8) : ∀ (k : Nat) (l : List UInt8), k + 1 < (splitL c l).length → (Lib.splitK [c] 0 k l).length = k + 1
  | 0, l, h => by simp [Lib.splitK]
  | k + 1, l, h => by
    rcases first_of c l with h1 | ⟨w, s, rfl, h1⟩
    · rw [splitL, splA_no c l [] h1] at h; simp at h
    · rw [splitL, splA_hit c w [] s h1] at h
      rw [Lib.splitK, idx_hit c w s h1]
      have : ((w.length : Int) == -1) = false := by rw [beq_eq_false_iff_ne]; omega
      rw [this]
      have e2 : (w ++ c :: s).drop ((w.length : Int).toNat + [c].length) = s := by simp
      rw [e2]
      have := splitK_more c k s (by simp only [List.length_cons] at h; unfold splitL; omega)
      simp [this]
def isDig (b : UInt8) : Bool := decide (48 ≤ b.toNat) && decide (b.toNat ≤ 57)
def dvF (n : Nat) (b : UInt8) : Nat := 10 * n + (b.toNat - 48)
def dval (l : List UInt8) : Nat := l.foldl dvF 0
theorem dval_snoc (l : List UInt8) (b : UInt8) : dval (l ++ [b]) = 10 * dval l + (b.toNat - 48) := by simp [dval, dvF]
theorem dvF_ge : ∀ (l : List UInt8) (n : Nat), n * 10 ^ l.length ≤ l.foldl dvF n
  | [], n => by simp
  | b :: l, n => by
    rw [List.foldl_cons, List.length_cons]
    refine Nat.le_trans ?_ (dvF_ge l (dvF n b))
    rw [Nat.pow_succ, Nat.mul_comm (10 ^ l.length) 10, ← Nat.mul_assoc]
    refine Nat.mul_le_mul_right _ ?_
    unfold dvF; omega
theorem dvF_lt : ∀ (l : List UInt8) (n : Nat), l.all isDig = true → l.foldl dvF n < (n + 1) * 10 ^ l.length
  | [], n, _ => by simp
  | b :: l, n, h => by
    rw [List.all_cons, Bool.and_eq_true] at h
    rw [List.foldl_cons, List.length_cons]
    refine Nat.lt_of_lt_of_le (dvF_lt l (dvF n b) h.2) ?_
    rw [Nat.pow_succ, Nat.mul_comm (10 ^ l.length) 10, ← Nat.mul_assoc]
    refine Nat.mul_le_mul_right _ ?_
    have h1 := h.1
    simp only [isDig, Bool.and_eq_true, decide_eq_true_eq] at h1
    unfold dvF; omega
theorem dval_lt (l : List UInt8) (h : l.all isDig = true) : dval l < 10 ^ l.length := by have := dvF_lt l 0 h; unfold dval; omega
/-- A number in decimal without superfluous zeros. -/
def canB (l : List UInt8) : Bool := decide (1 ≤ l.length) && l.all isDig && !(decide (l.head? = some 48) && decide (1 < l.length))
theorem dval_ge (l : List UInt8) (h : canB l = true) (h2 : 2 ≤ l.length) : 10 ^ (l.length - 1) ≤ dval l := by
  cases l with
  | nil => simp at h2
  | cons b l =>
    simp only [canB, List.all_cons, List.head?_cons, Option.some.injEq, Bool.and_eq_true, Bool.not_eq_true', Bool.and_eq_false_iff, decide_eq_true_eq, decide_eq_false_iff_not, isDig, List.length_cons] at h h2 ⊢
    have hb : b ≠ 48 := by
      rcases h.2 with h | h
      · exact h
      · omega
    have hn : b.toNat ≠ 48 := fun e => hb (UInt8.toNat_inj.1 (by rw [e]; rfl))
    have := dvF_ge l (dvF 0 b)
    show 10 ^ (l.length + 1 - 1) ≤ (b :: l).foldl dvF 0
    rw [List.foldl_cons]
    refine Nat.le_trans ?_ this
    have : 1 ≤ dvF 0 b := by have := h.1.2.1; unfold dvF; omega
    calc 10 ^ (l.length + 1 - 1) = 1 * 10 ^ l.length := by simp
      _ ≤ _ := Nat.mul_le_mul_right _ this
def readP (w : List UInt8) : Int := if canB w && decide (w.length ≤ 6) then (dval w : Int) else -1
def numP (d : Nat) (w : List UInt8) : Int × Bool := if canB w && decide (w.length ≤ d) then ((dval w : Int), true) else (0, false)
theorem atoi_dig (l : List UInt8) (h1 : 1 ≤ l.length) (h : l.all isDig = true) : Lib.atoi l = some (dval l : Int) := by
  have key : ∀ (l : List UInt8) (n : Nat), l.all isDig = true → Lib.decFrom n l = some (l.foldl dvF n) := by
    intro l
    induction l with
    | nil => intro n _; rfl
    | cons b l ih =>
      intro n h
      rw [List.all_cons, Bool.and_eq_true] at h
      have h1 := h.1
      simp only [isDig, Bool.and_eq_true, decide_eq_true_eq] at h1
      have e : Lib.digitVal b = some (b.toNat - 48) := by unfold Lib.digitVal; rw [if_pos h1]
      rw [Lib.decFrom, e]
      simp only
      rw [ih _ h.2, List.foldl_cons]
      congr 2
      unfold dvF; omega
  cases l with
  | nil => simp at h1
  | cons b l =>
    have hb := h
    rw [List.all_cons, Bool.and_eq_true] at hb
    have h1 := hb.1
    simp only [isDig, Bool.and_eq_true, decide_eq_true_eq] at h1
    have e1 : (b == 45) = false := by rw [beq_eq_false_iff_ne]; rintro rfl; simp at h1
    have e2 : (b == 43) = false := by rw [beq_eq_false_iff_ne]; rintro rfl; simp at h1
    unfold Lib.atoi
    simp only [e1, e2, Bool.false_eq_true, if_false]
    unfold Lib.decNat
    rw [key (b :: l) 0 h]
    rfl
theorem dropW_all {l : List UInt8} {p : UInt8 → Bool} (h : l.all p = true) : l.dropWhile p = [] := by
  induction l with
  | nil => rfl
  | cons x l ih =>
    rw [List.all_cons, Bool.and_eq_true] at h
    rw [List.dropWhile_cons, if_pos h.1, ih h.2]
theorem dropW_nil {p : UInt8 → Bool} : ∀ {l : List UInt8}, l.dropWhile p = [] → l.all p = true
  | [], _ => rfl
  | x :: l, h => by
    rw [List.dropWhile_cons] at h
    by_cases e : p x = true
    · rw [if_pos e] at h; rw [List.all_cons, e, dropW_nil h]; rfl
    · rw [if_neg e] at h; cases h
theorem trimS_nil (l cs : List UInt8) : Lib.trimS l cs = [] ↔ l.all (fun b => cs.contains b) = true := by
  unfold Lib.trimS Lib.trimLeftS Lib.trimRightS
  constructor
  · intro h
    have h1 := dropW_nil h
    rw [List.all_reverse] at h1
    have h2 : l.reverse.all (fun b => cs.contains b) = true := by
      have e := List.takeWhile_append_dropWhile (p := fun b => cs.contains b) (l := l.reverse)
      rw [← e, List.all_append, h1, Bool.and_true, List.all_eq_true]
      intro x hx
      have := List.all_takeWhile (p := fun b => cs.contains b) (l := l.reverse)
      exact List.all_eq_true.1 this x hx
    rw [List.all_reverse] at h2
    exact h2
  · intro h
    have h2 : l.reverse.all (fun b => cs.contains b) = true := by rw [List.all_reverse]; exact h
    rw [dropW_all h2]; rfl
theorem digs_mem (b : UInt8) : ([48, 49, 50, 51, 52, 53, 54, 55, 56, 57] : List UInt8).contains b = isDig b := by
  rw [Bool.eq_iff_iff]
  simp only [List.contains_iff_mem, List.mem_cons, List.not_mem_nil, or_false, isDig, Bool.and_eq_true, decide_eq_true_eq]
  constructor
  · rintro (rfl | rfl | rfl | rfl | rfl | rfl | rfl | rfl | rfl | rfl) <;> decide
  · rintro ⟨h1, h2⟩
    have : b.toNat = 48 ∨ b.toNat = 49 ∨ b.toNat = 50 ∨ b.toNat = 51 ∨ b.toNat = 52 ∨ b.toNat = 53 ∨ b.toNat = 54 ∨ b.toNat = 55 ∨ b.toNat = 56 ∨ b.toNat = 57 := by omega
    rcases this with h | h | h | h | h | h | h | h | h | h <;> (have := (UInt8.ofNat_toNat (x := b)); rw [h] at this; subst this; decide)
theorem num_readP (w : List UInt8) (h : (numP 5 w).2 = true) : (numP 5 w).1 = readP w ∧ w.length ≤ 5 := by
  unfold numP at h ⊢
  by_cases c : (canB w && decide (w.length ≤ 5)) = true
  · rw [if_pos c]
    rw [Bool.and_eq_true, decide_eq_true_eq] at c
    unfold readP
    rw [c.1, decide_eq_true (p := w.length ≤ 6) (by omega)]
    exact ⟨rfl, c.2⟩
  · rw [if_neg c] at h; cases h
theorem spec_l1Split.ev_l (c : UInt8) (s : List UInt8) : ∀ (p cur : List UInt8) (f : Nat) (acc : List ByteArray), p.length + s.length ≤ 1048576 → f ≤ p.length → cur = p.drop f → acc.length ≤ p.length → Ev (fun k => spec_l1Split.l0 k (baL (p ++ s)) (c.toNat : Int) acc (f : Int) (p.length : Int)) (acc ++ (splA c cur s).map baL) := by
  induction s with
  | nil =>
    intro p cur f acc hp hf hc ha
    refine Ev.step (f := fun _ => some (acc ++ [baL cur])) (fun k => ?_) (Ev.val (by simp [splA]))
    rw [spec_l1Split.l0, if_neg (by rw [baL_size]; simp), if_pos (by omega), if_pos (by rw [baL_size]; simp; omega), if_pos (by omega), baL_ext', List.append_nil, baL_size]
    congr 3
    subst hc
    rw [Int.toNat_natCast]
    exact congrArg baL (List.take_of_length_le (by simp))
  | cons x s ih =>
    intro p cur f acc hp hf hc ha
    simp only [List.length_cons] at hp
    have hb : bt (baL (p ++ x :: s)) (p.length : Int) = (x.toNat : Int) := bt_baL p x s
    have hw : wrap64 ((p.length : Int) + 1) = ((p ++ [x]).length : Int) := by rw [w64 (by omega) (by omega)]; simp
    have hap : p ++ x :: s = (p ++ [x]) ++ s := by simp
    by_cases e : x = c
    · subst e
      have h := ih (p ++ [x]) [] (p ++ [x]).length (acc ++ [baL cur]) (by simp; omega) (Nat.le_refl _) (by simp) (by simp; omega)
      refine Ev.step (fun k => ?_) (Ev.eq h (by simp [splA]))
      rw [spec_l1Split.l0, if_pos (by rw [baL_size]; simp; omega), if_pos (by omega), if_pos hb, if_pos (by omega), if_pos (by omega), if_pos (by rw [baL_size]; simp; omega), if_pos (by omega), hw, baL_ext']
      have e2 : (List.drop (f : Int).toNat (p ++ x :: s)).take ((p.length : Int).toNat - (f : Int).toNat) = cur := by
        subst hc
        rw [Int.toNat_natCast, Int.toNat_natCast, List.drop_append_of_le_length hf, List.take_append_of_le_length (by simp)]
        exact List.take_of_length_le (by simp)
      rw [e2, ← hap]
    · have h := ih (p ++ [x]) (cur ++ [x]) f acc (by simp; omega) (by simp; omega) (by subst hc; rw [List.drop_append_of_le_length hf]) (by simp; omega)
      refine Ev.step (fun k => ?_) (Ev.eq h (by simp [splA, e]))
      rw [spec_l1Split.l0, if_pos (by rw [baL_size]; simp; omega), if_pos (by omega), if_neg (by rw [hb]; intro h; exact e (UInt8.toNat_inj.1 (by omega))), hw, ← hap]
theorem spec_l1Split.ev (c : UInt8) (l : List UInt8) (hl : l.length ≤ 1048576) : Ev (fun k => spec_l1Split.f k (baL l) (c.toNat : Int)) ((splitL c l).map baL) :=
  spec_l1Split.ev_l c l [] [] 0 [] (by simpa using hl) (Nat.le_refl _) rfl (Nat.le_refl _)
theorem spec_l1Read.ev_l (s : List UInt8) : ∀ p : List UInt8, p.length + s.length ≤ 6 → p.all isDig = true → Ev (fun k => spec_l1Read.l0 k (baL (p ++ s)) (dval p : Int) (p.length : Int)) (if s.all isDig then (dval (p ++ s) : Int) else -1) := by
  induction s with
  | nil =>
    intro p hp hd
    refine Ev.step (f := fun _ => some (dval p : Int)) (fun k => ?_) (Ev.val (by simp))
    rw [spec_l1Read.l0, if_neg (by rw [baL_size]; simp)]
  | cons x s ih =>
    intro p hp hd
    simp only [List.length_cons] at hp
    have hb : bt (baL (p ++ x :: s)) (p.length : Int) = (x.toNat : Int) := bt_baL p x s
    have hw : wrap64 ((p.length : Int) + 1) = ((p ++ [x]).length : Int) := by rw [w64 (by omega) (by omega)]; simp
    have hap : p ++ x :: s = (p ++ [x]) ++ s := by simp
    have hlt : dval p < 1000000 := by
      have := dval_lt p hd
      have h6 : 10 ^ p.length ≤ 10 ^ 6 := Nat.pow_le_pow_right (by omega) (by omega)
      omega
    have hx : x.toNat < 256 := x.toNat_lt
    have L1 : (p.length : Int) < ((baL (p ++ x :: s)).size : Int) := by rw [baL_size]; simp; omega
    by_cases e1 : x.toNat < 48
    · refine Ev.step (f := fun _ => some (-1)) (fun k => ?_) (Ev.val (by simp [isDig]; intro h; omega))
      rw [spec_l1Read.l0, if_pos L1, if_pos (by omega), hb, if_pos (by omega)]
    · by_cases e2 : 57 < x.toNat
      · refine Ev.step (f := fun _ => some (-1)) (fun k => ?_) (Ev.val (by simp [isDig]; intro h; omega))
        rw [spec_l1Read.l0, if_pos L1, if_pos (by omega), hb, if_neg (by omega), if_pos (by omega)]
      · have hdx : isDig x = true := by simp [isDig]; omega
        have h := ih (p ++ [x]) (by simp; omega) (by rw [List.all_append, hd]; simp [hdx])
        refine Ev.step (fun k => ?_) (Ev.eq h (by rw [List.all_cons, hdx, Bool.true_and, hap]))
        rw [spec_l1Read.l0, if_pos L1, if_pos (by omega), hb, if_neg (by omega), if_neg (by omega), hw, ← hap]
        congr 1
        rw [w64 (n := 10 * (dval p : Int)) (by omega) (by omega), w64 (by omega) (by omega), dval_snoc]
        omega
theorem spec_l1Read.ev (w : List UInt8) : Ev (fun k => spec_l1Read.f k (baL w)) (readP w) := by
  unfold spec_l1Read.f
  refine Ev.bindc (spec_l1In.val _ _ _) ?_
  rw [baL_size]
  by_cases h1 : 1 ≤ w.length ∧ w.length ≤ 6
  · refine Ev.pos (by simp; omega) (Ev.pos (by omega) ?_)
    have hl := spec_l1Read.ev_l w [] (by simpa using h1.2) rfl
    simp only [List.nil_append, List.length_nil] at hl
    have hb : bt (baL w) 0 = ((w.head?.getD 0).toNat : Int) := by
      cases w with
      | nil => simp at h1
      | cons x s => exact bt_baL [] x s
    have hz : (bt (baL w) 0 = 48) ↔ w.head? = some 48 := by
      rw [hb]
      cases w with
      | nil => simp at h1
      | cons x s =>
        simp only [List.head?_cons, Option.getD_some, Option.some.injEq]
        constructor
        · intro h; exact UInt8.toNat_inj.1 (by have : (48 : UInt8).toNat = 48 := rfl; omega)
        · rintro rfl; rfl
    have goB : ∀ b : Bool, b = (decide (w.head? = some 48) && decide (1 < w.length)) → Ev (fun k => spec_l1Read.j0 k (baL w) b) (readP w) := by
      intro b hbb
      cases b with
      | true =>
        refine Ev.step (f := fun _ => some (-1)) (fun k => by rw [spec_l1Read.j0, if_pos rfl]) (Ev.val ?_)
        unfold readP canB
        rw [← hbb]; simp
      | false =>
        refine Ev.step (fun k => by rw [spec_l1Read.j0, if_neg (by decide)]; rfl) (Ev.eq hl ?_)
        unfold readP canB
        rw [← hbb, decide_eq_true h1.1, decide_eq_true h1.2]
        simp
    refine Ev.ite (fun c => ?_) (fun c => ?_)
    · refine goB _ ?_
      rw [decide_eq_true (hz.1 c), Bool.true_and]
      by_cases c2 : 1 < w.length
      · rw [decide_eq_true c2, decide_eq_true (by omega)]
      · rw [decide_eq_false c2, decide_eq_false (by omega)]
    · refine goB _ ?_
      rw [decide_eq_false (fun h => c (hz.2 h)), Bool.false_and]
  · refine Ev.neg (by simp; omega) ?_
    refine Ev.step (f := fun _ => some (-1)) (fun k => by rw [spec_l1Read.j0, if_pos rfl]) (Ev.val ?_)
    unfold readP canB
    by_cases h2 : 1 ≤ w.length
    · rw [decide_eq_false (p := w.length ≤ 6) (by omega)]; simp
    · rw [decide_eq_false h2]; simp
theorem impl_number.val (w : List UInt8) (d : Nat) (hd : d ≤ 18) : impl_number.f (baL w) (d : Int) = some (numP d w) := by
  unfold impl_number.f numP canB
  rw [baL_size, baL_list]
  by_cases h1 : 1 ≤ w.length ∧ w.length ≤ d
  · rw [if_pos (by omega), if_pos (by omega)]
    have hcs : (digs_.data.toList : List UInt8) = [48, 49, 50, 51, 52, 53, 54, 55, 56, 57] := rfl
    have ht : Lib.trimS w digs_.data.toList = [] ↔ w.all isDig = true := by
      rw [trimS_nil, hcs]
      have : (fun b => ([48, 49, 50, 51, 52, 53, 54, 55, 56, 57] : List UInt8).contains b) = isDig := funext digs_mem
      rw [this]
    have hb : bt (baL w) 0 = ((w.head?.getD 0).toNat : Int) := by
      cases w with
      | nil => simp at h1
      | cons x s => exact bt_baL [] x s
    have hz : (bt (baL w) 0 = 48) ↔ w.head? = some 48 := by
      rw [hb]
      cases w with
      | nil => simp at h1
      | cons x s =>
        simp only [List.head?_cons, Option.getD_some, Option.some.injEq]
        constructor
        · intro h; exact UInt8.toNat_inj.1 (by have : (48 : UInt8).toNat = 48 := rfl; omega)
        · rintro rfl; rfl
    rw [decide_eq_true h1.1, decide_eq_true h1.2]
    by_cases c : w.all isDig = true
    · rw [if_pos (ht.2 c), c]
      by_cases c2 : w.head? = some 48 ∧ 1 < w.length
      · rw [if_pos ⟨hz.2 c2.1, by omega⟩, decide_eq_true c2.1, decide_eq_true c2.2]; rfl
      · rw [if_neg (fun h => c2 ⟨hz.1 h.1, by omega⟩), atoi_dig w h1.1 c]
        have : (decide (w.head? = some 48) && decide (1 < w.length)) = false := by
          rw [Bool.and_eq_false_iff]
          by_cases q : w.head? = some 48
          · exact .inr (decide_eq_false (fun h => c2 ⟨q, h⟩))
          · exact .inl (decide_eq_false q)
        rw [this]; rfl
    · rw [if_neg (fun h => c (ht.1 h))]
      rw [Bool.not_eq_true] at c
      rw [c]; rfl
  · rw [if_neg (by omega)]
    by_cases h2 : 1 ≤ w.length
    · rw [decide_eq_false (p := w.length ≤ d) (by omega)]; simp
    · rw [decide_eq_false h2]; simp
theorem strings_SplitN.val (c : UInt8) (l : List UInt8) (n : Nat) (hl : l.length ≤ 1048576) (h1 : 1 ≤ n) (hn : n ≤ 1048576) : ∃ ws : List (List UInt8), strings_SplitN.f (baL l) (baL [c]) (n : Int) = some (ws.map baL) ∧ (((splitL c l).length < n ∧ ws = splitL c l) ∨ (n ≤ (splitL c l).length ∧ ws.length = n)) := by
  refine ⟨Lib.splitK [c] 0 (min n (l.length + 1) - 1) l, ?_, ?_⟩
  · unfold strings_SplitN.f
    rw [baL_size, baL_size, if_pos ⟨hl, by simp, by omega, by omega⟩, Int.toNat_natCast]
    congr 1
    have := Lib.splitB_data (baL [c]) 0 (min n (l.length + 1) - 1) (baL l)
    rw [baL_list, baL_list] at this
    rw [← this, List.map_map]
    have e : ∀ X : List ByteArray, X = X.map (baL ∘ fun x => x.data.toList) := fun X => by
      have : (baL ∘ fun x : ByteArray => x.data.toList) = id := funext fun x => baL_ext (by simp [baL_list])
      rw [this, List.map_id]
    exact e _
  · have hc := splA_count c l []
    by_cases h : (splitL c l).length < n
    · exact .inl ⟨h, splitK_all c _ l (by unfold splitL at *; omega)⟩
    · refine .inr ⟨by omega, ?_⟩
      by_cases e : (splitL c l).length ≤ min n (l.length + 1) - 1 + 1
      · rw [splitK_all c _ l e]; unfold splitL at *; omega
      · rw [splitK_more c _ l (by omega)]; unfold splitL at *; omega
def partP (d : Nat) (c : UInt8) (most : Nat) (l : List UInt8) : List Int × Bool :=
  if decide ((splitL c l).length ≤ most) && (splitL c l).all (fun w => (numP d w).2) then ((splitL c l).map (fun w => (numP d w).1), true) else ([], false)
theorem impl_parted.ev_l (s : List (List UInt8)) : ∀ p : List (List UInt8), p.length + s.length ≤ 1048576 → Ev (fun k => impl_parted.l0 k (p.map fun w => (numP 5 w).1) ((p ++ s).map baL) ((p ++ s).length : Int) (p.length : Int)) (if s.all (fun w => (numP 5 w).2) then ((p ++ s).map (fun w => (numP 5 w).1), true) else ([], false)) := by
  induction s with
  | nil =>
    intro p hp
    refine Ev.step (f := fun _ => some (p.map (fun w => (numP 5 w).1), true)) (fun k => ?_) (Ev.val (by simp))
    rw [impl_parted.l0, if_neg (by simp)]
  | cons x s ih =>
    intro p hp
    simp only [List.length_cons] at hp
    have hw : wrap64 ((p.length : Int) + 1) = ((p ++ [x]).length : Int) := by rw [w64 (by omega) (by omega)]; simp
    have hap : p ++ x :: s = (p ++ [x]) ++ s := by simp
    have hr : rdOf ByteArray.empty ((p ++ x :: s).map baL) (p.length : Int) = baL x := by
      have := rdOf_app (p.map baL) (baL x) (s.map baL)
      simpa using this
    have hn := impl_number.val x 5 (by omega)
    by_cases e : (numP 5 x).2 = true
    · have h := ih (p ++ [x]) (by simp; omega)
      refine Ev.step (fun k => ?_) (Ev.eq h (by rw [List.all_cons, e, Bool.true_and, hap]))
      rw [impl_parted.l0, if_pos (by simp; omega), if_pos (by omega), if_pos (by simp; omega), hr, show (5 : Int) = ((5 : Nat) : Int) from rfl, hn, Option.bind_some, if_pos e, if_pos (by simp; omega), hw, ← hap]
      simp
    · refine Ev.step (f := fun _ => some ([], false)) (fun k => ?_) (Ev.val (by rw [List.all_cons]; rw [Bool.not_eq_true] at e; rw [e]; rfl))
      rw [impl_parted.l0, if_pos (by simp; omega), if_pos (by omega), if_pos (by simp; omega), hr, show (5 : Int) = ((5 : Nat) : Int) from rfl, hn, Option.bind_some, if_neg e]
theorem impl_parted.ev (c : UInt8) (l : List UInt8) (most : Nat) (hl : l.length ≤ 1048576) (hm : most ≤ 1000) : Ev (fun k => impl_parted.f k (baL l) (baL [c]) (most : Int)) (partP 5 c most l) := by
  unfold impl_parted.f
  obtain ⟨ws, h1, h2⟩ := strings_SplitN.val c l (most + 1) hl (by omega) (by omega)
  have hw : wrap64 ((most : Int) + 1) = ((most + 1 : Nat) : Int) := by rw [w64 (by omega) (by omega)]; omega
  refine Ev.bindc (x := ws.map baL) (by rw [hw]; exact h1) ?_
  unfold partP
  rcases h2 with ⟨h2, rfl⟩ | ⟨h2, h3⟩
  · refine Ev.neg (by simp; omega) ?_
    have h := impl_parted.ev_l (splitL c l) [] (by simp; omega)
    rw [decide_eq_true (by omega), Bool.true_and]
    refine Ev.congr (fun k => ?_) h
    simp
  · refine Ev.pos (by simp; omega) (Ev.val ?_)
    rw [decide_eq_false (by omega)]; rfl
def piecesP (l : List UInt8) : List Int × Bool :=
  if l = [48] then ([], true) else if 200 < l.length then ([], false) else if piGoodB ((splitL 43 l).map readP) then ((splitL 43 l).map readP, true) else ([], false)
theorem spec_piParse.ev_l (s : List (List UInt8)) : ∀ p : List (List UInt8), p.length + s.length ≤ 1048576 → Ev (fun k => spec_piParse.l0 k (p.map readP) ((p ++ s).map baL) ((p ++ s).length : Int) (p.length : Int)) (if piGoodB ((p ++ s).map readP) then ((p ++ s).map readP, true) else ([], false)) := by
  induction s with
  | nil =>
    intro p hp
    refine Ev.step (f := fun k => (spec_piGood.f k (p.map readP)).bind fun t => (if t = true then some (p.map readP, true) else some ([], false))) (fun k => ?_) ?_
    · rw [spec_piParse.l0, if_neg (by simp)]
    · rw [List.append_nil]
      refine Ev.bind (spec_piGood.ev _ (by simp at hp ⊢; omega)) ?_
      cases piGoodB (p.map readP) with
      | true => exact Ev.pos rfl (Ev.val rfl)
      | false => exact Ev.neg (by decide) (Ev.val rfl)
  | cons x s ih =>
    intro p hp
    simp only [List.length_cons] at hp
    have hw : wrap64 ((p.length : Int) + 1) = ((p ++ [x]).length : Int) := by rw [w64 (by omega) (by omega)]; simp
    have hap : p ++ x :: s = (p ++ [x]) ++ s := by simp
    have hr : rdOf ByteArray.empty ((p ++ x :: s).map baL) (p.length : Int) = baL x := by
      have := rdOf_app (p.map baL) (baL x) (s.map baL)
      simpa using this
    have h := ih (p ++ [x]) (by simp; omega)
    refine Ev.step (f := fun k => (spec_l1Read.f k (baL x)).bind fun t => spec_piParse.l0 k (p.map readP ++ [t]) ((p ++ x :: s).map baL) ((p ++ x :: s).length : Int) ((p ++ [x]).length : Int)) (fun k => ?_) ?_
    · rw [spec_piParse.l0, if_pos (by simp; omega), if_pos (by omega), if_pos (by simp; omega), hr, hw]
      congr 1; funext t
      rw [if_pos (by simp; omega)]
    · refine Ev.bind (spec_l1Read.ev x) ?_
      rw [hap]
      have e : p.map readP ++ [readP x] = (p ++ [x]).map readP := by simp
      rw [e]; exact h
theorem spec_piParse.ev (l : List UInt8) : Ev (fun k => spec_piParse.f k (baL l)) (piecesP l) := by
  unfold spec_piParse.f piecesP
  rw [baL_toList, baL_size]
  by_cases c1 : l = [48]
  · rw [if_pos c1]; exact Ev.pos c1 (Ev.val rfl)
  · rw [if_neg c1]
    refine Ev.neg c1 ?_
    by_cases c2 : 200 < l.length
    · rw [if_pos c2]; exact Ev.pos (by omega) (Ev.val rfl)
    · rw [if_neg c2]
      refine Ev.neg (by omega) ?_
      have hc := splA_count 43 l []
      refine Ev.bind (spec_l1Split.ev 43 l (by omega)) ?_
      have h := spec_piParse.ev_l (splitL 43 l) [] (by simp; unfold splitL; omega)
      refine Ev.congr (fun k => ?_) h
      simp
theorem spec_ParsePieces.ev (l : List UInt8) : Ev (fun k => spec_ParsePieces.f k (baL l)) (piecesP l) := by
  unfold spec_ParsePieces.f
  exact Ev.bind (spec_piParse.ev l) (Ev.val rfl)
theorem readP_num (w : List UInt8) (h : 1 ≤ readP w ∧ readP w ≤ 10000) : numP 5 w = (readP w, true) := by
  unfold readP at h ⊢
  unfold numP
  by_cases c : (canB w && decide (w.length ≤ 6)) = true
  · rw [if_pos c] at h ⊢
    rw [Bool.and_eq_true, decide_eq_true_eq] at c
    have h5 : w.length ≤ 5 := by
      by_cases h6 : w.length = 6
      · have := dval_ge w c.1 (by omega)
        rw [h6] at this
        omega
      · omega
    rw [c.1, decide_eq_true h5]; rfl
  · rw [if_neg c] at h; omega
theorem impl_ParsePieces.ev (l : List UInt8) (hl : l.length ≤ 1048576) : Ev (fun k => impl_ParsePieces.f k (baL l)) (piecesP l) := by
  unfold impl_ParsePieces.f piecesP
  rw [baL_toList]
  by_cases c1 : l = [48]
  · rw [if_pos c1]; exact Ev.pos c1 (Ev.val rfl)
  · rw [if_neg c1]
    refine Ev.neg c1 (Ev.bind (impl_parted.ev 43 l 20 hl (by omega)) ?_)
    unfold partP
    by_cases c2 : ((decide ((splitL 43 l).length ≤ 20) && (splitL 43 l).all fun w => (numP 5 w).2)) = true
    · rw [if_pos c2]
      rw [Bool.and_eq_true, decide_eq_true_eq, List.all_eq_true] at c2
      have e : (splitL 43 l).map (fun w => (numP 5 w).1) = (splitL 43 l).map readP := List.map_congr_left (fun w hw => (num_readP w (c2.2 w hw)).1)
      have hs := splA_size 43 5 l [] (fun w hw => (num_readP w (c2.2 w hw)).2)
      have c3 := c2.1
      unfold splitL at c3
      simp only [List.length_nil] at hs
      rw [if_neg (show ¬ 200 < l.length by omega), e]
      refine Ev.pos rfl (Ev.bind (impl_ArePieces.ev _ (by simp [splitL]; omega)) ?_)
      cases piGoodB ((splitL 43 l).map readP) with
      | true => exact Ev.pos rfl (Ev.val rfl)
      | false => exact Ev.neg (by decide) (Ev.val rfl)
    · rw [if_neg c2]
      refine Ev.neg (by decide) (Ev.val ?_)
      by_cases c3 : 200 < l.length
      · rw [if_pos c3]
      · rw [if_neg c3, if_neg]
        intro hg
        apply c2
        unfold piGoodB at hg
        simp only [Bool.and_eq_true, decide_eq_true_eq, List.length_map] at hg
        rw [Bool.and_eq_true, decide_eq_true_eq, List.all_eq_true]
        refine ⟨hg.1.1, fun w hw => ?_⟩
        have h := List.all_eq_true.1 hg.1.2 (readP w) (List.mem_map_of_mem hw)
        simp only [Bool.and_eq_true, decide_eq_true_eq] at h
        rw [readP_num w h]
theorem piecesP_length (l : List UInt8) : (piecesP l).1.length ≤ 1000 := by
  unfold piecesP
  split
  · simp
  · split
    · simp
    · split
      · have := splA_count 43 l []
        simp [splitL]; omega
      · simp
theorem FnExactParsePieces : laws_FnExactParsePieces.Pure := by
  intro a _
  obtain ⟨l, rfl⟩ := baL_of a
  refine Ev.rounds (g := fun n => laws_FnExactParsePieces.f n (baL l)) ?_
  unfold laws_FnExactParsePieces.f
  rw [baL_size]
  refine Ev.ite (fun _ => Ev.val rfl) (fun hl => ?_)
  have hR := piecesP_length l
  have hs := spec_ParsePieces.ev l
  have hi := impl_ParsePieces.ev l (by omega)
  generalize piecesP l = R at *
  have heR := laws_eqIntS.ev R.1 R.1 (by omega)
  rw [decide_eq_true rfl] at heR
  exact Ev.bind hs (Ev.bind hi (Ev.bind heR (Ev.pos rfl (Ev.neg (by simp) (Ev.bind (laws_markIntS.ev R.1 (by omega)) (Ev.bind (laws_heldIntS.ev R.1.length (by omega)) (Ev.neg (by omega) (Ev.pos rfl (Ev.bind hi (Ev.bind heR (Ev.pos rfl (Ev.neg (by simp) (Ev.bind (laws_heldIntS.ev R.1.length (by omega)) (Ev.neg (by omega) (Ev.pos rfl (Ev.val rfl))))))))))))))))
end Go.Proofs.YtocknmijghfafaaDoor.Pure
