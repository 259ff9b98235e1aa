/- For all arguments within the row's reach the law FnExactPuzzleText answers true.
No further conditions. -/
import Derived.Test.YthklbgllgeigdaaDoorPFnExactPuzzleTextx0
import Derived.Test.YthklbgllgeigdaaDoorPFnExactPuzzleTextx1
import Derived.Test.YthklbgllgeigdaaDoorPFnExactPuzzleTextx2
import Derived.Test.YthklbgllgeigdaaDoorPFnExactPuzzleTextx3
import Derived.Test.YthklbgllgeigdaaDoorPFnExactPuzzleTextx4
import Derived.Test.YthklbgllgeigdaaDoorPFnExactPuzzleTextx5
import Derived.Test.YthklbgllgeigdaaDoorPFnExactPuzzleTextxs
set_option linter.unusedVariables false
set_option linter.unusedSimpArgs false
namespace Go.Proofs.YthklbgllgeigdaaDoor.Pure
open Go.RowKit Go.Proofs.YthklbgllgeigdaaDoor.PFnExactPuzzleText Go.Proofs.YthklbgllgeigdaaDoorW.PrintWords Go.Proofs.YthklbgllgeigdaaDoorW.PrintLast Go.Proofs.YthklbgllgeigdaaDoorW.PrintMore
theorem Ev.pos {α : Type} {c : Prop} [Decidable c] {g f : Nat → Option α} {r : α} (hc : c) (h : Ev g r) : Ev (fun k => if c then g k else f k) r := by
  obtain ⟨K, h⟩ := h
  exact ⟨K, fun k hk => by show (if c then g k else f k) = _; rw [if_pos hc]; exact h k hk⟩
theorem Ev.neg {α : Type} {c : Prop} [Decidable c] {g f : Nat → Option α} {r : α} (hc : ¬ c) (h : Ev f r) : Ev (fun k => if c then g k else f k) r := by
  obtain ⟨K, h⟩ := h
  exact ⟨K, fun k hk => by show (if c then g k else f k) = _; rw [if_neg hc]; exact h k hk⟩
theorem Ev.val {α : Type} {a r : α} (h : a = r) : Ev (fun _ => some a) r := ⟨0, fun _ _ => by rw [h]⟩
theorem Ev.const {α : Type} {a : Option α} {r : α} (h : a = some r) : Ev (fun _ => a) r := ⟨0, fun _ _ => h⟩
theorem Ev.bindc {α β : Type} {a : Option α} {f : Nat → α → Option β} {x : α} {r : β} (h : a = some x) (k : Ev (fun n => f n x) r) : Ev (fun n => a.bind (f n)) r := by
  obtain ⟨K, k⟩ := k
  exact ⟨K, fun n hn => by show a.bind (f n) = _; rw [h]; exact k n hn⟩
theorem Ev.eq {α : Type} {g : Nat → Option α} {r r' : α} (h : Ev g r) (e : r = r') : Ev g r' := e ▸ h
def inB (a b c : Int) : Bool := decide (b ≤ a) && decide (a ≤ c)
theorem Ev.ite {α : Type} {c : Prop} [Decidable c] {g f : Nat → Option α} {r : α} (h : c → Ev g r) (h' : ¬ c → Ev f r) : Ev (fun k => if c then g k else f k) r := by
  by_cases hc : c
  · exact Ev.pos hc (h hc)
  · exact Ev.neg hc (h' hc)
theorem rd_eq (l : List Int) (i : Nat) (h : i < l.length) : rd l (i : Int) = l[i] := by simp [rd, List.getD_eq_getElem?_getD, List.getElem?_eq_getElem h]
theorem rd_app (p : List Int) (x : Int) (s : List Int) : rd (p ++ x :: s) (p.length : Int) = x := by simp [rd, List.getD_eq_getElem?_getD]
theorem w64 {n : Int} (h0 : -9223372036854775808 ≤ n) (h1 : n ≤ 9223372036854775807) : wrap64 n = n := by unfold wrap64; omega
theorem spec_l1In.val (a b c : Int) : spec_l1In.f a b c = some (decide (b ≤ a) && decide (a ≤ c)) := by
  unfold spec_l1In.f
  by_cases h : a ≥ b
  · rw [if_pos h]; simp [show b ≤ a from h]
  · rw [if_neg h]; simp [show ¬ b ≤ a from h]
theorem spec_l1In.valB (a b c : Int) : spec_l1In.f a b c = some (inB a b c) := spec_l1In.val a b c
theorem impl_within.val (a b c : Int) : impl_within.f a b c = some (decide (b ≤ a) && decide (a ≤ c)) := by
  unfold impl_within.f
  by_cases h : b ≤ a
  · rw [if_pos h]; simp [h]
  · rw [if_neg h]; simp [h]
theorem impl_within.valB (a b c : Int) : impl_within.f a b c = some (inB a b c) := impl_within.val a b c
/-- No element is less than the one before. -/
def sortedB : List Int → Bool
  | [] => true
  | [_] => true
  | x :: y :: s => decide (x ≤ y) && sortedB (y :: s)
theorem sortedB_iff (l : List Int) : sortedB l = true ↔ ∀ i : Nat, ∀ h : i + 1 < l.length, l[i] ≤ l[i + 1] := by
  induction l with
  | nil => simp [sortedB]
  | cons x s ih =>
    cases s with
    | nil => simp [sortedB]
    | cons y s =>
      simp only [sortedB, Bool.and_eq_true, decide_eq_true_eq, ih]
      constructor
      · rintro ⟨h1, h2⟩ i hi
        cases i with
        | zero => exact h1
        | succ i => exact h2 i (by simpa using hi)
      · intro h
        exact ⟨h 0 (by simp), fun i hi => h (i + 1) (by simpa using hi)⟩
def piGoodB (l : List Int) : Bool := decide (l.length ≤ 20) && (l.all fun x => decide (1 ≤ x) && decide (x ≤ 10000)) && sortedB l
theorem ite_and (t x : Bool) : (if t = true then some x else some false) = some (t && x) := by cases t <;> rfl
def clueB (k a b : Int) : Bool :=
  if k = 0 then inB a 0 4 && b == 0
  else if k = 1 then inB a 0 24 && b == 0
  else if k = 3 then inB a 0 24 && b == 0
  else if k = 2 then inB a 0 24 && inB b 0 1
  else if k = 4 then inB a 0 24 && inB b 0 16
  else if k = 5 then inB a 1 6 && inB b 0 4
  else false
theorem spec_pzClue.ev (k a b : Int) : Ev (fun n => spec_pzClue.f n k a b) (clueB k a b) := by
  unfold spec_pzClue.f
  by_cases h0 : k = 0
  · refine Ev.pos h0 (Ev.const ?_)
    rw [spec_l1In.valB, Option.bind_some, ite_and]; simp [clueB, h0]
  · refine Ev.neg h0 ?_
    by_cases h1 : k = 1
    · refine Ev.pos h1 (Ev.step (f := fun _ => some (clueB k a b)) (fun n => ?_) (Ev.val rfl))
      subst h1
      rw [spec_pzClue.j0, if_pos (by rfl), spec_l1In.valB, Option.bind_some, ite_and]; simp [clueB]
    · refine Ev.neg h1 (Ev.step (f := fun _ => some (clueB k a b)) (fun n => ?_) (Ev.val rfl))
      rw [spec_pzClue.j0]
      by_cases h3 : k = 3
      · subst h3
        rw [if_pos (by rfl), spec_l1In.valB, Option.bind_some, ite_and]; simp [clueB]
      · rw [if_neg (by simp [h3])]
        simp only [spec_l1In.valB, Option.bind_some, ite_and]
        unfold clueB
        rw [if_neg h0, if_neg h1, if_neg h3]
        by_cases h2 : k = 2
        · rw [if_pos h2, if_pos h2]
        · rw [if_neg h2, if_neg h2]
          by_cases h4 : k = 4
          · rw [if_pos h4, if_pos h4]
          · rw [if_neg h4, if_neg h4]
            by_cases h5 : k = 5
            · rw [if_pos h5, if_pos h5]
            · rw [if_neg h5, if_neg h5]
theorem impl_IsClue.ev (k a b : Int) : Ev (fun n => impl_IsClue.f n k a b) (clueB k a b) := by
  unfold impl_IsClue.f
  by_cases h0 : k = 0
  · refine Ev.pos h0 (Ev.const ?_)
    rw [impl_within.valB, Option.bind_some, ite_and]; simp [clueB, h0]
  · refine Ev.neg h0 ?_
    by_cases h1 : k = 1
    · refine Ev.pos h1 (Ev.step (f := fun _ => some (clueB k a b)) (fun n => ?_) (Ev.val rfl))
      subst h1
      rw [impl_IsClue.j0, if_pos (by rfl), impl_within.valB, Option.bind_some, ite_and]; simp [clueB]
    · refine Ev.neg h1 (Ev.step (f := fun _ => some (clueB k a b)) (fun n => ?_) (Ev.val rfl))
      rw [impl_IsClue.j0]
      by_cases h3 : k = 3
      · subst h3
        rw [if_pos (by rfl), impl_within.valB, Option.bind_some, ite_and]; simp [clueB]
      · rw [if_neg (by simp [h3])]
        simp only [impl_within.valB, Option.bind_some, ite_and]
        unfold clueB
        rw [if_neg h0, if_neg h1, if_neg h3]
        by_cases h2 : k = 2
        · rw [if_pos h2, if_pos h2]
        · rw [if_neg h2, if_neg h2]
          by_cases h4 : k = 4
          · rw [if_pos h4, if_pos h4]
          · rw [if_neg h4, if_neg h4]
            by_cases h5 : k = 5
            · rw [if_pos h5, if_pos h5]
            · rw [if_neg h5, if_neg h5]
theorem laws_toClue.val (k a b : Int) : laws_toClue.f k a b = some (k, a, b) := rfl
def clueIn (c : S59) : S55 := ⟨c.f0, c.f1, c.f2⟩
theorem laws_szClueS.val (l : List S59) (hl : l.length ≤ 9223372036854775807) : laws_szClueS.f l 1048576 = some (if 1048576 < (l.length : Int) then (-1 : Int) else 1048576 - (l.length : Int)) := by
  unfold laws_szClueS.f
  rw [w64 (by omega) (by omega)]
  by_cases h : 1048576 < (l.length : Int)
  · rw [if_pos (by omega), if_pos h]
  · rw [if_neg (by omega), if_neg h]
theorem laws_szPuzzle.val (l : List S59) (hl : l.length ≤ 9223372036854775807) : laws_szPuzzle.f l 1048576 = some (if 1048576 < (l.length : Int) then (-1 : Int) else 1048576 - (l.length : Int)) := by
  unfold laws_szPuzzle.f
  rw [laws_szClueS.val l hl, Option.bind_some]
  by_cases h : 1048576 < (l.length : Int)
  · rw [if_pos h, if_pos (by omega)]
  · rw [if_neg h, if_neg (by omega)]
theorem rd_TL_app (p : List S59) (x : S59) (s : List S59) : rd_T59 (p ++ x :: s) (p.length : Int) = x := by simp [rd_T59, List.getD_eq_getElem?_getD]
theorem laws_toClueS.ev_l (s : List S59) : ∀ (p : List S59) (q r : List S55), p.length + s.length ≤ 9223372036854775806 → q.length = p.length → r.length = s.length → Ev (fun k => laws_toClueS.l0 k (p ++ s) (q ++ r) (p.length : Int)) (q ++ s.map clueIn) := by
  induction s with
  | nil =>
    intro p q r hp hq hr
    obtain rfl : r = [] := List.eq_nil_of_length_eq_zero (by simpa using hr)
    refine Ev.step (f := fun _ => some (q ++ [])) (fun k => ?_) (Ev.val (by simp))
    rw [laws_toClueS.l0, if_neg (by simp)]
  | cons x s ih =>
    intro p q r hp hq hr
    obtain _ | ⟨y, r⟩ := r
    · simp at hr
    simp only [List.length_cons] at hp hr
    have h := ih (p ++ [x]) (q ++ [clueIn x]) r (by simp <;> omega) (by simp [hq]) (by omega)
    refine Ev.step (f := fun k => laws_toClueS.l0 k ((p ++ [x]) ++ s) ((q ++ [clueIn x]) ++ r) ((p ++ [x]).length : Int)) (fun k => ?_) (Ev.eq h (by simp))
    rw [laws_toClueS.l0, if_pos (by simp <;> omega), if_pos (by omega), rd_TL_app, laws_toClue.val, Option.bind_some, if_pos (by simp <;> omega), w64 (by omega) (by omega)]
    have e : (q ++ y :: r).set (p.length : Int).toNat (clueIn x) = (q ++ [clueIn x]) ++ r := by
      rw [show (p.length : Int).toNat = q.length by omega, List.set_append_right _ _ (Nat.le_refl _)]
      simp
    simp only [clueIn] at e ⊢
    rw [e]
    simp
theorem laws_toClueS.ev (l : List S59) (hl : (l.length : Int) ≤ 1048576) : Ev (fun k => laws_toClueS.f k l) (l.map clueIn) := by
  have h := laws_toClueS.ev_l l [] [] (List.replicate l.length z55) (by simp <;> omega) rfl (by simp)
  refine Ev.congr (fun k => ?_) h
  simp only [laws_toClueS.f]
  rw [if_pos (by omega), if_pos (by omega)]
  simp
theorem laws_toPuzzle.ev (l : List S59) (hl : (l.length : Int) ≤ 1048576) : Ev (fun k => laws_toPuzzle.f k l) (l.map clueIn) := by
  unfold laws_toPuzzle.f
  exact Ev.bind (laws_toClueS.ev l hl) (Ev.val rfl)
theorem rd_TI_app (p : List S55) (x : S55) (s : List S55) : rd_T55 (p ++ x :: s) (p.length : Int) = x := by simp [rd_T55, List.getD_eq_getElem?_getD]
theorem laws_eqClueS.same_l (s : List S55) : ∀ (p : List S55), p.length + s.length ≤ 9223372036854775806 → Ev (fun k => laws_eqClueS.l0 k (p ++ s) (p ++ s) (p.length : Int)) true := by
  induction s with
  | nil =>
    intro p hp
    refine Ev.step (f := fun _ => some true) (fun k => ?_) (Ev.val rfl)
    rw [laws_eqClueS.l0, if_neg (by simp)]
  | cons x s ih =>
    intro p hp
    simp only [List.length_cons] at hp
    have h := ih (p ++ [x]) (by simp <;> omega)
    refine Ev.step (f := fun k => laws_eqClueS.l0 k ((p ++ [x]) ++ s) ((p ++ [x]) ++ s) ((p ++ [x]).length : Int)) (fun k => ?_) h
    rw [laws_eqClueS.l0, if_pos (by simp <;> omega), if_pos (by omega), if_pos (by simp <;> omega), rd_TI_app]
    simp only [laws_eqClue.f, if_true, Option.bind_some]
    rw [w64 (by omega) (by omega)]
    simp
theorem laws_eqPuzzle.same (l : List S55) (hl : l.length ≤ 9223372036854775806) : Ev (fun k => laws_eqPuzzle.f k l l) true := by
  unfold laws_eqPuzzle.f laws_eqClueS.f
  refine Ev.bind (Ev.pos rfl (laws_eqClueS.same_l l [] (by simpa using hl))) (Ev.pos rfl (Ev.val rfl))
def puzzleB (l : List S55) : Bool := decide (l.length ≤ 6) && l.all fun c => clueB c.f0 c.f1 c.f2
theorem spec_pzGood.ev_l (s : List S55) : ∀ (p : List S55), p.length + s.length ≤ 9223372036854775806 → Ev (fun k => spec_pzGood.l0 k (p ++ s) ((p ++ s).length : Int) (p.length : Int)) (s.all fun c => clueB c.f0 c.f1 c.f2) := by
  induction s with
  | nil =>
    intro p hp
    refine Ev.step (f := fun _ => some true) (fun k => ?_) (Ev.val rfl)
    rw [spec_pzGood.l0, if_neg (by simp)]
  | cons x s ih =>
    intro p hp
    simp only [List.length_cons] at hp
    have h := ih (p ++ [x]) (by simp <;> omega)
    refine Ev.step (f := fun k => (spec_pzClue.f k x.f0 x.f1 x.f2).bind fun t => if t = true then spec_pzGood.l0 k ((p ++ [x]) ++ s) (((p ++ [x]) ++ s).length : Int) ((p ++ [x]).length : Int) else some false) (fun k => ?_) (Ev.bind (spec_pzClue.ev _ _ _) ?_)
    · rw [spec_pzGood.l0, if_pos (by simp <;> omega), if_pos (by omega), if_pos (by simp <;> omega), rd_TI_app, w64 (by omega) (by omega)]
      simp
    · simp only [List.all_cons]
      refine Ev.ite (fun c => Ev.eq h (by rw [c]; rfl)) (fun c => Ev.val (by rw [Bool.not_eq_true] at c; rw [c]; rfl))
theorem spec_pzGood.ev (l : List S55) : Ev (fun k => spec_pzGood.f k l) (puzzleB l) := by
  unfold spec_pzGood.f puzzleB
  refine Ev.ite (fun c => Ev.val ?_) (fun c => ?_)
  · rw [decide_eq_false (by omega)]; rfl
  · rw [decide_eq_true (by omega)]
    exact spec_pzGood.ev_l l [] (by simp <;> omega)
theorem idxO_ev {α : Type} (p : Nat → α → Option Bool) (P : α → Bool) (hp : ∀ x, Ev (fun k => p k x) (P x)) : ∀ (l : List α) (i : Int), 0 ≤ i → ∃ r, Ev (fun k => idxO (p k) l i) r ∧ decide (0 ≤ r) = l.any P
  | [], i, hi => ⟨-1, Ev.val rfl, rfl⟩
  | x :: s, i, hi => by
    obtain ⟨r, h1, h2⟩ := idxO_ev p P hp s (i + 1) (by omega)
    cases c : P x with
    | true => exact ⟨i, Ev.bind (hp x) (Ev.pos c (Ev.val rfl)), by rw [List.any_cons, c]; simp [hi]⟩
    | false => exact ⟨r, Ev.bind (hp x) (Ev.neg (by simp [c]) h1), by rw [List.any_cons, c, h2]; rfl⟩
theorem impl_IsPuzzle_1.ev (k a b : Int) : Ev (fun n => impl_IsPuzzle_1.f n k a b) (!clueB k a b) := by
  unfold impl_IsPuzzle_1.f
  exact Ev.bind (impl_IsClue.ev k a b) (Ev.val rfl)
theorem impl_IsPuzzle.ev (l : List S55) : Ev (fun k => impl_IsPuzzle.f k l) (puzzleB l) := by
  unfold impl_IsPuzzle.f puzzleB
  obtain ⟨r, h1, h2⟩ := idxO_ev (fun k (x : S55) => impl_IsPuzzle_1.f k x.f0 x.f1 x.f2) (fun x => !clueB x.f0 x.f1 x.f2) (fun x => impl_IsPuzzle_1.ev _ _ _) l 0 (by omega)
  refine Ev.ite (fun c => Ev.bind h1 (Ev.val ?_)) (fun c => Ev.val ?_)
  · rw [h2, decide_eq_true (by omega), List.any_eq_not_all_not]; simp
  · rw [decide_eq_false (by omega)]; rfl
/-- Each element is greater than the one before. -/
def risesB : List Int → Bool
  | [] => true
  | [_] => true
  | x :: y :: s => decide (x < y) && risesB (y :: s)
theorem rises_of_pairwise : ∀ l : List Int, l.Pairwise (fun x y => x < y) → risesB l = true
  | [], _ => rfl
  | [_], _ => rfl
  | x :: y :: s, h => by
    rw [List.pairwise_cons] at h
    rw [risesB, rises_of_pairwise (y :: s) h.2, decide_eq_true (h.1 y (by simp))]; rfl
def ruGoodB (l : List Int) : Bool := decide (2 ≤ l.length) && ((l.all fun x => inB x 0 60) && risesB l) && rd l 0 == 0
theorem risesB_head {x : Int} {s : List Int} (h : risesB (x :: s) = true) : ∀ y ∈ s, x < y := by
  induction s generalizing x with
  | nil => simp
  | cons z s ih =>
    simp only [risesB, Bool.and_eq_true, decide_eq_true_eq] at h
    intro y hy
    rcases List.mem_cons.1 hy with rfl | hy
    · exact h.1
    · have := ih h.2 y hy; omega
theorem risesB_last {l : List Int} (h : risesB l = true) (hne : l ≠ []) : ∀ y ∈ l, y ≤ l.getLast hne := by
  induction l with
  | nil => exact absurd rfl hne
  | cons x s ih =>
    intro y hy
    cases s with
    | nil => simp at hy; simp [hy]
    | cons z s =>
      have h2 : risesB (z :: s) = true := by simp only [risesB, Bool.and_eq_true] at h; exact h.2
      rw [List.getLast_cons (by simp)]
      rcases List.mem_cons.1 hy with rfl | hy
      · have h1 := risesB_head h z (by simp)
        have := ih h2 (by simp) z (by simp)
        omega
      · exact ih h2 (by simp) y hy
theorem rd_last (x : Int) (s : List Int) : rd (x :: s) (s.length : Int) = (x :: s).getLast (by simp) := by
  rw [List.getLast_eq_getElem, rd_eq (x :: s) s.length (by simp)]
  simp
theorem pairwise_of_rises : ∀ l : List Int, risesB l = true → l.Pairwise (fun x y => x < y)
  | [], _ => List.Pairwise.nil
  | x :: s, h => List.pairwise_cons.2 ⟨risesB_head h, pairwise_of_rises s (by
      cases s with
      | nil => rfl
      | cons y s => rw [risesB, Bool.and_eq_true] at h; exact h.2)⟩
theorem puzzleB_length {l : List S55} (h : puzzleB l = true) : l.length ≤ 6 := by unfold puzzleB at h; simp at h; exact h.1
/-- A table of N values. -/
def tab (N : Nat) (f : Int → Int) : List Int := (List.range N).map fun (i : Nat) => f (i : Int)
theorem tab_length (N : Nat) (f : Int → Int) : (tab N f).length = N := by simp [tab]
theorem rd_tab (N : Nat) (f : Int → Int) (i : Int) (h0 : 0 ≤ i) (h1 : i < N) : rd (tab N f) i = f i := by
  obtain ⟨n, rfl⟩ := Int.eq_ofNat_of_zero_le h0
  rw [rd_eq _ _ (by rw [tab_length]; omega)]
  simp [tab]
theorem tab_congr (N : Nat) (f g : Int → Int) (h : ∀ i : Int, 0 ≤ i → i < N → f i = g i) : tab N f = tab N g := by
  unfold tab
  apply List.map_congr_left
  intro i hi
  exact h i (by omega) (by have := List.mem_range.1 hi; omega)
theorem tab_set (N : Nat) (f : Int → Int) (i : Int) (v : Int) (h0 : 0 ≤ i) : (tab N f).set i.toNat v = tab N (fun j => if j = i then v else f j) := by
  obtain ⟨n, rfl⟩ := Int.eq_ofNat_of_zero_le h0
  apply List.ext_getElem?
  intro j
  unfold tab
  by_cases hj : j < N
  · by_cases e : n = j
    · subst e
      simp [hj]
    · rw [List.getElem?_set_ne (by simpa using e)]
      simp [hj]
      omega
  · rw [List.getElem?_eq_none (by simp; omega), List.getElem?_eq_none (by simp; omega)]
/-- How many ways there are to make s of some of the pieces. -/
def cnt : List Int → Int → Int
  | [], s => if s = 0 then 1 else 0
  | x :: t, s => cnt t s + cnt t (s - x)
theorem cnt_snoc (l : List Int) (n s : Int) : cnt (l ++ [n]) s = cnt l s + cnt l (s - n) := by
  induction l generalizing s with
  | nil => simp [cnt]
  | cons x t ih =>
    simp only [List.cons_append, cnt, ih]
    rw [show s - x - n = s - n - x by omega]; omega
theorem cnt_nonneg (l : List Int) (s : Int) : 0 ≤ cnt l s := by
  induction l generalizing s with
  | nil => unfold cnt; split <;> omega
  | cons x t ih => have h1 := ih s; have h2 := ih (s - x); unfold cnt; omega
theorem cnt_le (l : List Int) (s : Int) : cnt l s ≤ 2 ^ l.length := by
  induction l generalizing s with
  | nil => unfold cnt; split <;> simp
  | cons x t ih =>
    have h1 := ih s; have h2 := ih (s - x)
    unfold cnt
    rw [List.length_cons, Int.pow_succ]; omega
theorem cnt_neg (l : List Int) (hl : ∀ x ∈ l, 0 ≤ x) (s : Int) (h : s < 0) : cnt l s = 0 := by
  induction l generalizing s with
  | nil => unfold cnt; rw [if_neg (by omega)]
  | cons x t ih =>
    have hx := hl x (by simp)
    unfold cnt
    rw [ih (fun y hy => hl y (by simp [hy])) s h, ih (fun y hy => hl y (by simp [hy])) (s - x) (by omega)]; rfl
theorem sum_nonneg (l : List Int) (hl : ∀ x ∈ l, 0 ≤ x) : 0 ≤ l.sum := by
  induction l with
  | nil => simp
  | cons x t ih =>
    have hx := hl x (by simp)
    have := ih (fun y hy => hl y (by simp [hy]))
    rw [List.sum_cons]; omega
theorem cnt_above (l : List Int) (hl : ∀ x ∈ l, 0 ≤ x) (s : Int) (h : l.sum < s) : cnt l s = 0 := by
  induction l generalizing s with
  | nil => unfold cnt; rw [if_neg (by simp at h; omega)]
  | cons x t ih =>
    have hx := hl x (by simp)
    rw [List.sum_cons] at h
    unfold cnt
    rw [ih (fun y hy => hl y (by simp [hy])) s (by omega), ih (fun y hy => hl y (by simp [hy])) (s - x) (by omega)]; rfl
theorem pow_le_20 {n : Nat} (h : n ≤ 20) : (2 : Int) ^ n ≤ 1048576 := by
  have : (2 : Nat) ^ n ≤ 2 ^ 20 := Nat.pow_le_pow_right (by omega) h
  have e : ((2 : Int) ^ n) = ((2 ^ n : Nat) : Int) := by simp
  rw [e]; omega
theorem sum_le (l : List Int) (B : Int) (hl : ∀ x ∈ l, x ≤ B) : l.sum ≤ l.length * B := by
  induction l with
  | nil => simp
  | cons x t ih =>
    have hx := hl x (by simp)
    have := ih (fun y hy => hl y (by simp [hy]))
    rw [List.sum_cons, List.length_cons]
    have e : ((t.length + 1 : Nat) : Int) * B = t.length * B + B := by
      rw [show ((t.length + 1 : Nat) : Int) = (t.length : Int) + 1 by omega, Int.add_mul]; omega
    omega
/-- Up to where all sums can be made of pieces in order. -/
def runL : List Int → Int → Int
  | [], a => a
  | x :: t, a => if x > a + 1 then a else runL t (a + x)
/-- What a clue of a kind tells of pieces. -/
def pzV (kind a : Int) (l : List Int) : Int :=
  if kind = 0 then (l.length : Int) else if kind = 1 then l.sum else if kind = 2 then (if cnt l a < 1 then cnt l a else 1) else if kind = 3 then runL l 0 else if kind = 4 then cnt l a else (l.count a : Int)
/-- The integers in order. -/
def sortL (l : List Int) : List Int := l.mergeSort fun x y => decide (x ≤ y)
theorem perm_sorted_eq : ∀ (a b : List Int), a.Perm b → a.Pairwise (fun x y => x ≤ y) → b.Pairwise (fun x y => x ≤ y) → a = b
  | [], b, h, _, _ => (List.nil_perm.1 h).symm
  | x :: a, [], h, _, _ => absurd h.length_eq (by simp)
  | x :: a, y :: b, h, ha, hb => by
    rw [List.pairwise_cons] at ha hb
    have hy : y ∈ x :: a := h.symm.subset (by simp)
    have hx : x ∈ y :: b := h.subset (by simp)
    have e : x = y := by
      rcases List.mem_cons.1 hy with e1 | e1
      · exact e1.symm
      · rcases List.mem_cons.1 hx with e2 | e2
        · exact e2
        · have := ha.1 y e1; have := hb.1 x e2; omega
    subst e
    rw [perm_sorted_eq a b (List.Perm.cons_inv h) ha.2 hb.2]
theorem sortL_perm (l : List Int) : (sortL l).Perm l := List.mergeSort_perm l _
theorem sortL_sorted (l : List Int) : (sortL l).Pairwise (fun x y => x ≤ y) := by
  have h := List.pairwise_mergeSort (le := fun x y : Int => decide (x ≤ y)) (fun a b c h1 h2 => by simp at *; omega) (fun a b => by simp; omega) l
  exact h.imp (fun h => of_decide_eq_true h)
theorem sortL_length (l : List Int) : (sortL l).length = l.length := (sortL_perm l).length_eq
/-- The pieces along a chain. -/
def partsL (links : Int) : List Int → Int → List Int
  | [], n => if n < links then [links - n] else []
  | c :: s, n => if n < c then (c - n) :: 1 :: partsL links s (c + 1) else 1 :: partsL links s (c + 1)
theorem partsL_length (links : Int) : ∀ (s : List Int) (n : Int), (partsL links s n).length ≤ 2 * s.length + 1
  | [], n => by rw [partsL]; split <;> simp
  | c :: s, n => by
    have := partsL_length links s (c + 1)
    rw [partsL]
    split <;> simp <;> omega
theorem partsL_pos (links : Int) (hl : 1 ≤ links) (s : List Int) : 0 < (partsL links s 0).length := by
  cases s with
  | nil => rw [partsL, if_pos (by omega)]; simp
  | cons c s => rw [partsL]; split <;> simp
theorem partsL_ge (links : Int) : ∀ (s : List Int) (n : Int), (∀ x ∈ partsL links s n, 1 ≤ x)
  | [], n, x, hx => by
    rw [partsL] at hx
    split at hx
    · simp at hx; omega
    · simp at hx
  | c :: s, n, x, hx => by
    have := partsL_ge links s (c + 1)
    rw [partsL] at hx
    split at hx
    · simp at hx
      rcases hx with h | h | h
      · omega
      · omega
      · exact this x h
    · simp at hx
      rcases hx with h | h
      · omega
      · exact this x h
theorem partsL_le (links : Int) (hl : links ≤ 1000) : ∀ (s : List Int) (n : Int), 0 ≤ n → (∀ x ∈ s, 0 ≤ x ∧ x ≤ 1000) → (∀ x ∈ partsL links s n, x ≤ 1000)
  | [], n, hn, hs, x, hx => by
    rw [partsL] at hx
    split at hx
    · simp at hx; omega
    · simp at hx
  | c :: s, n, hn, hs, x, hx => by
    have hc := hs c (by simp)
    have := partsL_le links hl s (c + 1) (by omega) (fun y hy => hs y (by simp [hy]))
    rw [partsL] at hx
    split at hx
    · simp at hx
      rcases hx with h | h | h
      · omega
      · omega
      · exact this x h
    · simp at hx
      rcases hx with h | h
      · omega
      · exact this x h
def cutsB (a : Int) (l : List Int) : Bool := inB a 1 1000 && (decide (l.length ≤ 9) && ((l.all fun x => inB x 0 (a - 1)) && risesB l))
theorem cutsB_in {a : Int} {l : List Int} (h : cutsB a l = true) : 1 ≤ a ∧ a ≤ 1000 ∧ l.length ≤ 9 ∧ ∀ x ∈ l, 0 ≤ x ∧ x ≤ a - 1 := by
  unfold cutsB inB at h
  simp at h
  exact ⟨h.1.1, h.1.2, h.2.1, h.2.2.1⟩
theorem cutsB_in' {a : Int} {l : List Int} (h : cutsB a l = true) : ∀ x ∈ l, 0 ≤ x ∧ x ≤ 1000 := fun x hx => by
  obtain ⟨_, h2, _, h4⟩ := cutsB_in h
  have := h4 x hx; omega
/-! ### Numbers below 100 as texts, and texts joined -/
def numL (n : Int) : List UInt8 := Lib.decDigits n.toNat
theorem numL_small {n : Int} (h0 : 0 ≤ n) (h1 : n < 10) : numL n = [UInt8.ofNat (48 + n.toNat)] := by
  unfold numL; rw [Lib.decDigits, dif_pos (by omega)]
theorem numL_two {n : Int} (h0 : 10 ≤ n) : numL n = numL (n / 10) ++ [UInt8.ofNat (48 + n.toNat % 10)] := by
  unfold numL
  rw [Lib.decDigits, dif_neg (by omega), show (n / 10).toNat = n.toNat / 10 by omega]
theorem strOfNums_one {x : Int} : (strOfNums [x]).data.toList = [UInt8.ofNat x.toNat] := by
  simp [strOfNums]
theorem bytes_eq {a b : ByteArray} (h : a.data.toList = b.data.toList) : a = b := by
  cases a; cases b; simp only [ByteArray.mk.injEq]; exact Array.toList_inj.1 h
theorem bytes_app (a b : ByteArray) : (a ++ b).data.toList = a.data.toList ++ b.data.toList := by simp
theorem bytes_size (a : ByteArray) : a.size = a.data.toList.length := rfl
theorem numL_length {n : Int} (h0 : 0 ≤ n) (h1 : n < 100) : (numL n).length ≤ 2 := by
  by_cases c : n < 10
  · rw [numL_small h0 c]; simp
  · rw [numL_two (by omega), numL_small (n := n / 10) (by omega) (by omega)]; simp
theorem spec_l1Num.ev {n : Int} (h0 : 0 ≤ n) (h1 : n < 100) : Ev (fun k => spec_l1Num.f k n) ⟨(numL n).toArray⟩ := by
  have base : ∀ m : Int, 0 ≤ m → m < 10 → Ev (fun k => spec_l1Num.f k m) ⟨(numL m).toArray⟩ := fun m g0 g1 => by
    refine Ev.step (f := fun _ => some (strOfNums [(wrap64 (48 + m)) % 256])) (fun k => by rw [spec_l1Num.f, if_pos g1]) (Ev.val (bytes_eq ?_))
    rw [strOfNums_one, numL_small g0 g1, w64 (by omega) (by omega)]
    simp only [List.cons.injEq, and_true]
    congr 1; omega
  by_cases c : n < 10
  · exact base n h0 c
  · have hd : Int.tdiv n 10 = n / 10 := by rw [Int.tdiv_eq_ediv_of_nonneg h0]
    have hm : Int.tmod n 10 = n % 10 := Int.tmod_eq_emod_of_nonneg h0
    refine Ev.step (f := fun k => (spec_l1Num.f k (n / 10)).bind fun t119 => ((some (([(wrap64 (48 + (n % 10))) % 256] : List Int) : List Int)).bind fun y120 => (if t119.size + (strOfNums y120).size ≤ 9223372036854775807 then (some (t119 ++ (strOfNums y120))) else (none)))) (fun k => by rw [spec_l1Num.f, if_neg c, hd, hm, w64 (n := n / 10) (by omega) (by omega)]) ?_
    refine Ev.bind (base (n / 10) (by omega) (by omega)) (Ev.bindc rfl (Ev.pos ?_ (Ev.val (bytes_eq ?_))))
    · rw [bytes_size, bytes_size, strOfNums_one]
      have := numL_length (n := n / 10) (by omega) (by omega)
      simp only [List.length_cons, List.length_nil]
      omega
    · rw [bytes_app, strOfNums_one, numL_two (n := n) (by omega), w64 (by omega) (by omega)]
      simp only [List.append_cancel_left_eq, List.cons.injEq, and_true]
      congr 1; omega
theorem join_snoc (sep : List UInt8) : ∀ (X : List (List UInt8)) (y : List UInt8), X ≠ [] → Lib.join (X ++ [y]) sep = Lib.join X sep ++ sep ++ y
  | [], _, h => absurd rfl h
  | [x], y, _ => by
    rw [List.singleton_append, Lib.join_cons, Lib.join_one]
    simp [Lib.joinTail]
  | x :: z :: r, y, _ => by
    rw [List.cons_append, Lib.join_cons, Lib.join_cons]
    simp [Lib.joinTail]
theorem impl_joined.ev_l (sep : ByteArray) (hs : sep.size ≤ 10) : ∀ (s p : List Int), p.length + s.length ≤ 100 → (∀ x ∈ p ++ s, 0 ≤ x ∧ x < 100) → Ev (fun k => impl_joined.l0 k sep (p.map fun x => (⟨(numL x).toArray⟩ : ByteArray)) (p ++ s) ((p ++ s).length : Int) (p.length : Int)) ⟨(Lib.join ((p ++ s).map numL) sep.data.toList).toArray⟩
  | [], p, hp, hx => by
    rw [List.append_nil] at hx ⊢
    have e : (p.map fun x => (⟨(numL x).toArray⟩ : ByteArray)).map (·.data.toList) = p.map numL := by rw [List.map_map]; exact List.map_congr_left (fun x _ => by simp)
    have hj : (Lib.join (p.map numL) sep.data.toList).length ≤ 10000 := by
      have key : ∀ q : List Int, (∀ x ∈ q, 0 ≤ x ∧ x < 100) → (Lib.lens (q.map numL)) ≤ 2 * q.length := fun q => by
        induction q with
        | nil => intro _; simp [Lib.lens]
        | cons y q ih => intro h; have := ih (fun z hz => h z (by simp [hz])); have := numL_length (h y (by simp)).1 (h y (by simp)).2; simp [Lib.lens] at *; omega
      cases p with
      | nil => simp [Lib.join_nil]
      | cons y q =>
        rw [List.map_cons, Lib.join_length]
        have h1 := key (y :: q) hx
        rw [List.map_cons] at h1
        have h2 : sep.data.toList.length = sep.size := rfl
        rw [List.length_map, h2]
        simp only [List.length_cons, List.length_nil] at h1 hp
        have : sep.size * q.length ≤ 10 * q.length := Nat.mul_le_mul_right _ hs
        omega
    refine Ev.step (f := fun _ => (strings_Join.f (p.map fun x => (⟨(numL x).toArray⟩ : ByteArray)) sep).bind fun t171 => some t171) (fun k => by rw [impl_joined.l0, if_neg (by omega)]) ?_
    refine Ev.bindc (x := ⟨(Lib.join (p.map numL) sep.data.toList).toArray⟩) ?_ (Ev.val rfl)
    unfold strings_Join.f
    rw [e, if_pos ⟨by simp at hp ⊢; omega, by omega⟩]
  | y :: s, p, hp, hx => by
    simp only [List.length_cons] at hp
    have hy := hx y (by simp)
    have h := impl_joined.ev_l sep hs s (p ++ [y]) (by simp; omega) (by simpa using hx)
    have e1 : rd (p ++ y :: s) (p.length : Int) = y := rd_app p y s
    refine Ev.step (f := fun k => impl_joined.l0 k sep ((p ++ [y]).map fun x => (⟨(numL x).toArray⟩ : ByteArray)) ((p ++ [y]) ++ s) (((p ++ [y]) ++ s).length : Int) ((p ++ [y]).length : Int)) (fun k => ?_) (Ev.eq h (by simp))
    rw [impl_joined.l0, if_pos (by simp; omega), if_pos (by omega), if_pos (by simp; omega), e1]
    unfold strconv_Itoa.f
    rw [if_pos hy, Option.bind_some, if_pos (by simp; omega), w64 (by omega) (by omega)]
    simp [numL]
theorem impl_joined.ev (sep : ByteArray) (hs : sep.size ≤ 10) (l : List Int) (hl : l.length ≤ 100) (hx : ∀ x ∈ l, 0 ≤ x ∧ x < 100) : Ev (fun k => impl_joined.f k l sep) ⟨(Lib.join (l.map numL) sep.data.toList).toArray⟩ := impl_joined.ev_l sep hs l [] (by simpa using hl) (by simpa using hx)
def clueL (c : S55) : List UInt8 := numL c.f0 ++ [46] ++ numL c.f1 ++ [46] ++ numL c.f2
def inT (c : S55) : Prop := (0 ≤ c.f0 ∧ c.f0 < 100) ∧ (0 ≤ c.f1 ∧ c.f1 < 100) ∧ (0 ≤ c.f2 ∧ c.f2 < 100)
theorem clueL_join (c : S55) : Lib.join ([c.f0, c.f1, c.f2].map numL) [46] = clueL c := by
  simp only [List.map_cons, List.map_nil]
  rw [Lib.join_cons]
  simp [Lib.joinTail, clueL]
theorem clueL_length {c : S55} (h : inT c) : (clueL c).length ≤ 8 := by
  have h1 := numL_length h.1.1 h.1.2
  have h2 := numL_length h.2.1.1 h.2.1.2
  have h3 := numL_length h.2.2.1 h.2.2.2
  unfold clueL; simp; omega
def ptextL (l : List S55) : List UInt8 := Lib.join (l.map clueL) [44]
theorem ptextL_length : ∀ (l : List S55), (∀ c ∈ l, inT c) → (ptextL l).length ≤ 9 * l.length := by
  intro l h
  have key : ∀ q : List S55, (∀ c ∈ q, inT c) → Lib.lens (q.map clueL) ≤ 8 * q.length := fun q => by
    induction q with
    | nil => intro _; simp [Lib.lens]
    | cons y q ih => intro h; have := ih (fun z hz => h z (by simp [hz])); have := clueL_length (h y (by simp)); simp [Lib.lens] at *; omega
  unfold ptextL
  cases l with
  | nil => simp [Lib.join_nil]
  | cons y q =>
    have h1 := key (y :: q) h
    rw [List.map_cons] at h1 ⊢
    rw [Lib.join_length]
    simp only [List.length_cons, List.length_map, List.length_nil] at h1 ⊢
    omega
theorem impl_Puzzle_text.ev_l : ∀ (s p : List S55), p.length + s.length ≤ 100 → (∀ c ∈ p ++ s, inT c) → Ev (fun k => impl_Puzzle_text.l0 k (p.map fun c => (⟨(clueL c).toArray⟩ : ByteArray)) (p ++ s) ((p ++ s).length : Int) (p.length : Int)) ⟨(ptextL (p ++ s)).toArray⟩
  | [], p, hp, hx => by
    rw [List.append_nil] at hx ⊢
    have e : (p.map fun c => (⟨(clueL c).toArray⟩ : ByteArray)).map (·.data.toList) = p.map clueL := by rw [List.map_map]; exact List.map_congr_left (fun x _ => by simp)
    have hj := ptextL_length p hx
    refine Ev.step (f := fun _ => (strings_Join.f (p.map fun c => (⟨(clueL c).toArray⟩ : ByteArray)) (⟨#[44]⟩ : ByteArray)).bind fun t185 => some t185) (fun k => by rw [impl_Puzzle_text.l0, if_neg (by omega)]) ?_
    refine Ev.bindc (x := ⟨(ptextL p).toArray⟩) ?_ (Ev.val rfl)
    unfold strings_Join.f
    rw [e, show (⟨#[44]⟩ : ByteArray).data.toList = [44] from rfl, if_pos ⟨by simp at hp ⊢; omega, by unfold ptextL at hj; simp at hp; omega⟩]
    rfl
  | y :: s, p, hp, hx => by
    simp only [List.length_cons] at hp
    have hy := hx y (by simp)
    have h := impl_Puzzle_text.ev_l s (p ++ [y]) (by simp; omega) (by simpa using hx)
    have e1 : rd_T55 (p ++ y :: s) (p.length : Int) = y := rd_TI_app p y s
    refine Ev.step (f := fun k => (impl_joined.f k [y.f0, y.f1, y.f2] (⟨#[46]⟩ : ByteArray)).bind fun t181 => impl_Puzzle_text.l0 k ((p.map fun c => (⟨(clueL c).toArray⟩ : ByteArray)) ++ [t181]) ((p ++ [y]) ++ s) (((p ++ [y]) ++ s).length : Int) ((p ++ [y]).length : Int)) (fun k => ?_) ?_
    · rw [impl_Puzzle_text.l0, if_pos (by simp; omega), if_pos (by omega), if_pos (by simp; omega), e1, w64 (by omega) (by omega)]
      have : (p.map fun c => (⟨(clueL c).toArray⟩ : ByteArray)).length < 8796093022208 := by simp; omega
      simp only [this, if_true]
      simp
    · have hj := impl_joined.ev (⟨#[46]⟩ : ByteArray) (by decide) [y.f0, y.f1, y.f2] (by simp) (fun x hx => by
        unfold inT at hy
        simp only [List.mem_cons, List.not_mem_nil, or_false] at hx
        rcases hx with rfl | rfl | rfl
        · exact hy.1
        · exact hy.2.1
        · exact hy.2.2)
      rw [show (⟨#[46]⟩ : ByteArray).data.toList = [46] from rfl, clueL_join] at hj
      refine Ev.bind hj (Ev.eq (Ev.congr (fun k => ?_) h) (by simp))
      simp
theorem spec_pzText.ev_l : ∀ (s p : List S55), p.length + s.length ≤ 100 → (∀ c ∈ p ++ s, inT c) → Ev (fun k => spec_pzText.l0 k ⟨(ptextL p).toArray⟩ (p ++ s) ((p ++ s).length : Int) (p.length : Int)) ⟨(ptextL (p ++ s)).toArray⟩
  | [], p, hp, hx => by
    rw [List.append_nil]
    exact Ev.step (f := fun _ => some ⟨(ptextL p).toArray⟩) (fun k => by rw [spec_pzText.l0, if_neg (by omega)]) (Ev.val rfl)
  | y :: s, p, hp, hx => by
    simp only [List.length_cons] at hp
    have hy := hx y (by simp)
    have hpl := ptextL_length p (fun c hc => hx c (by simp [hc]))
    have h := spec_pzText.ev_l s (p ++ [y]) (by simp; omega) (by simpa using hx)
    have e1 : rd_T55 (p ++ y :: s) (p.length : Int) = y := rd_TI_app p y s
    have n0 := spec_l1Num.ev hy.1.1 hy.1.2
    have n1 := spec_l1Num.ev hy.2.1.1 hy.2.1.2
    have n2 := spec_l1Num.ev hy.2.2.1 hy.2.2.2
    have l0 := numL_length hy.1.1 hy.1.2
    have l1 := numL_length hy.2.1.1 hy.2.1.2
    have l2 := numL_length hy.2.2.1 hy.2.2.2
    have z0 : (⟨(numL y.f0).toArray⟩ : ByteArray).size = (numL y.f0).length := rfl
    have z1 : (⟨(numL y.f1).toArray⟩ : ByteArray).size = (numL y.f1).length := rfl
    have z2 : (⟨(numL y.f2).toArray⟩ : ByteArray).size = (numL y.f2).length := rfl
    have zp : (⟨(ptextL p).toArray⟩ : ByteArray).size = (ptextL p).length := rfl
    have zc : (⟨#[46]⟩ : ByteArray).size = 1 := rfl
    have zk : (⟨#[44]⟩ : ByteArray).size = 1 := rfl
    have hsz : ∀ a b : ByteArray, (a ++ b).size = a.size + b.size := fun a b => ByteArray.size_append
    by_cases c : p = []
    · subst c
      refine Ev.step (f := fun k => _) (fun k => by rw [spec_pzText.l0, if_pos (by first | (simp; done) | (simp; omega)), if_pos (by simp), if_pos (by first | (simp; done) | (simp; omega)), if_neg (by simp), e1]) ?_
      refine Ev.bind n0 (Ev.pos (by omega) (Ev.bind n1 (Ev.pos (by simp only [hsz]; omega) (Ev.pos (by simp only [hsz]; omega) (Ev.bind n2 (Ev.pos (by simp only [hsz]; omega) (Ev.pos (by simp only [hsz]; omega) ?_)))))))
      rw [w64 (by simp) (by simp)]
      refine Ev.eq (Ev.congr (fun k => ?_) h) (by simp)
      congr 1
      exact bytes_eq (by simp [ptextL, Lib.join_nil, Lib.join_one, clueL])
    · have hp0 : 0 < p.length := List.length_pos_iff.2 c
      refine Ev.step (f := fun k => _) (fun k => by rw [spec_pzText.l0, if_pos (by simp; omega), if_pos (by omega), if_pos (by simp; omega), if_pos (by omega), e1]) ?_
      refine Ev.pos (by omega) (Ev.bind n0 (Ev.pos (by omega) (Ev.bind n1 (Ev.pos (by simp only [hsz]; omega) (Ev.pos (by simp only [hsz]; omega) (Ev.bind n2 (Ev.pos (by simp only [hsz]; omega) (Ev.pos (by simp only [hsz]; omega) ?_))))))))
      rw [w64 (by omega) (by omega)]
      refine Ev.eq (Ev.congr (fun k => ?_) h) (by simp)
      have ej : ptextL (p ++ [y]) = ptextL p ++ [44] ++ clueL y := by
        unfold ptextL; rw [List.map_append, List.map_cons, List.map_nil, join_snoc _ _ _ (by simpa using c)]
      have e2 : (((p ++ [y]).length : Nat) : Int) = (p.length : Int) + 1 := by simp
      rw [e2, List.append_assoc, List.singleton_append]
      congr 1
      exact bytes_eq (by rw [ej]; simp [clueL])
def ptextB (l : List S55) : ByteArray × Bool := if puzzleB l = true then (⟨(ptextL l).toArray⟩, true) else (⟨#[]⟩, false)
theorem puzzle_inT {l : List S55} (h : puzzleB l = true) : l.length ≤ 6 ∧ ∀ c ∈ l, inT c := by
  unfold puzzleB at h
  simp only [Bool.and_eq_true, decide_eq_true_eq, List.all_eq_true] at h
  refine ⟨h.1, fun c hc => ?_⟩
  have := h.2 c hc
  unfold clueB inB at this
  unfold inT
  repeat' split at this
  all_goals first
    | (simp only [Bool.and_eq_true, decide_eq_true_eq, beq_iff_eq] at this; omega)
    | cases this
theorem impl_PuzzleText.ev (l : List S55) : Ev (fun k => impl_PuzzleText.f k l) (ptextB l) := by
  unfold impl_PuzzleText.f
  refine Ev.bind (impl_IsPuzzle.ev l) (Ev.ite (fun c => ?_) (fun c => Ev.val (by rw [ptextB, if_neg c])))
  have hc := puzzle_inT c
  exact Ev.bind (impl_Puzzle_text.ev_l l [] (by simp; omega) (by simpa using hc.2)) (Ev.val (by rw [ptextB, if_pos c]; rfl))
theorem spec_PuzzleText.ev (l : List S55) : Ev (fun k => spec_PuzzleText.f k l) (ptextB l) := by
  unfold spec_PuzzleText.f
  refine Ev.bind (spec_pzGood.ev l) (Ev.ite (fun c => ?_) (fun c => Ev.val (by rw [ptextB, if_neg c])))
  have hc := puzzle_inT c
  exact Ev.bind (spec_pzText.ev_l l [] (by simp; omega) (by simpa using hc.2)) (Ev.val (by rw [ptextB, if_pos c]; rfl))
theorem FnExactPuzzleText : laws_FnExactPuzzleText.Pure := by
  intro l hl
  refine Ev.rounds (g := fun n => laws_FnExactPuzzleText.f n l) ?_
  unfold laws_FnExactPuzzleText.f
  refine Ev.bindc (laws_szPuzzle.val l hl) ?_
  by_cases hc : 1048576 < (l.length : Int)
  · exact Ev.pos (by rw [if_pos hc]; omega) (Ev.val rfl)
  refine Ev.neg (by rw [if_neg hc]; omega) ?_
  have h1 := laws_toPuzzle.ev l (by omega)
  have hm : ((l.map clueIn).length : Int) ≤ 1048576 := by simp; omega
  have hs := spec_PuzzleText.ev (l.map clueIn)
  have hi := impl_PuzzleText.ev (l.map clueIn)
  generalize (l.map clueIn) = P at *
  have heP := laws_eqPuzzle.same P (by omega)
  exact Ev.bind h1 (Ev.bind hs (Ev.bind h1 (Ev.bind hi (Ev.pos rfl (Ev.neg (by simp) (Ev.bind h1 (Ev.bind heP (Ev.pos rfl (Ev.val rfl)))))))))
end Go.Proofs.YthklbgllgeigdaaDoor.Pure
