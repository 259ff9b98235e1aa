/- For all arguments within the row's reach the law FnExactSolutions answers true.
No further conditions. -/
import Derived.Test.YtfiikhdkohgmfaaPFnExactSolutionsx0
import Derived.Test.YtfiikhdkohgmfaaPFnExactSolutionsx1
import Derived.Test.YtfiikhdkohgmfaaPFnExactSolutionsx2
import Derived.Test.YtfiikhdkohgmfaaPFnExactSolutionsx3
import Derived.Test.YtfiikhdkohgmfaaPFnExactSolutionsx4
import Derived.Test.YtfiikhdkohgmfaaPFnExactSolutionsx5
import Derived.Test.YtfiikhdkohgmfaaPFnExactSolutionsx6
import Derived.Test.YtfiikhdkohgmfaaPFnExactSolutionsx7
import Derived.Test.YtfiikhdkohgmfaaPFnExactSolutionsx8
import Derived.Test.YtfiikhdkohgmfaaPFnExactSolutionsx9
import Derived.Test.YtfiikhdkohgmfaaPFnExactSolutionsxs
set_option linter.unusedVariables false
set_option linter.unusedSimpArgs false
namespace Go.Proofs.Ytfiikhdkohgmfaa.Pure
open Go.RowKit Go.Proofs.Ytfiikhdkohgmfaa.PFnExactSolutions Go.Proofs.YtfiikhdkohgmfaaW.PrintWords Go.Proofs.YtfiikhdkohgmfaaW.PrintLast Go.Proofs.YtfiikhdkohgmfaaW.PrintMore
theorem Ev.pos {α : Type} {c : Prop} [Decidable c] {g f : Nat → Option α} {r : α} (hc : c) (h : Ev g r) : Ev (fun k => if c then g k else f k) r := by
  obtain ⟨K, h⟩ := h
  exact ⟨K, fun k hk => by show (if c then g k else f k) = _; rw [if_pos hc]; exact h k hk⟩
theorem Ev.neg {α : Type} {c : Prop} [Decidable c] {g f : Nat → Option α} {r : α} (hc : ¬ c) (h : Ev f r) : Ev (fun k => if c then g k else f k) r := by
  obtain ⟨K, h⟩ := h
  exact ⟨K, fun k hk => by show (if c then g k else f k) = _; rw [if_neg hc]; exact h k hk⟩
theorem Ev.val {α : Type} {a r : α} (h : a = r) : Ev (fun _ => some a) r := ⟨0, fun _ _ => by rw [h]⟩
theorem Ev.const {α : Type} {a : Option α} {r : α} (h : a = some r) : Ev (fun _ => a) r := ⟨0, fun _ _ => h⟩
theorem Ev.bindc {α β : Type} {a : Option α} {f : Nat → α → Option β} {x : α} {r : β} (h : a = some x) (k : Ev (fun n => f n x) r) : Ev (fun n => a.bind (f n)) r := by
  obtain ⟨K, k⟩ := k
  exact ⟨K, fun n hn => by show a.bind (f n) = _; rw [h]; exact k n hn⟩
theorem Ev.eq {α : Type} {g : Nat → Option α} {r r' : α} (h : Ev g r) (e : r = r') : Ev g r' := e ▸ h
def inB (a b c : Int) : Bool := decide (b ≤ a) && decide (a ≤ c)
theorem Ev.ite {α : Type} {c : Prop} [Decidable c] {g f : Nat → Option α} {r : α} (h : c → Ev g r) (h' : ¬ c → Ev f r) : Ev (fun k => if c then g k else f k) r := by
  by_cases hc : c
  · exact Ev.pos hc (h hc)
  · exact Ev.neg hc (h' hc)
theorem rd_eq (l : List Int) (i : Nat) (h : i < l.length) : rd l (i : Int) = l[i] := by simp [rd, List.getD_eq_getElem?_getD, List.getElem?_eq_getElem h]
theorem rd_app (p : List Int) (x : Int) (s : List Int) : rd (p ++ x :: s) (p.length : Int) = x := by simp [rd, List.getD_eq_getElem?_getD]
theorem w64 {n : Int} (h0 : -9223372036854775808 ≤ n) (h1 : n ≤ 9223372036854775807) : wrap64 n = n := by unfold wrap64; omega
theorem laws_eqIntS.ev_l (s t : List Int) (hl : s.length ≤ 35184372088832) : ∀ (p : List Int), p.length + s.length ≤ 35184372088832 → s.length = t.length → ∀ q : List Int, q.length = p.length → Ev (fun k => laws_eqIntS.l0 k (p ++ s) (q ++ t) (p.length : Int)) (decide (s = t)) := by
  induction s generalizing t with
  | nil =>
    intro p hp ht q hq
    obtain rfl : t = [] := List.eq_nil_of_length_eq_zero (by simpa using ht.symm)
    refine Ev.step (f := fun _ => some true) (fun k => ?_) (Ev.val (by simp))
    rw [laws_eqIntS.l0, if_neg (by simp)]
  | cons x s ih =>
    intro p hp ht q hq
    obtain _ | ⟨y, t⟩ := t
    · simp at ht
    simp only [List.length_cons] at ht hp hl
    have e1 : rd (p ++ x :: s) (p.length : Int) = x := rd_app p x s
    have e2 : rd (q ++ y :: t) (p.length : Int) = y := by rw [← hq]; exact rd_app q y t
    by_cases e : x = y
    · subst e
      have h := ih t (by omega) (p ++ [x]) (by simp <;> omega) (by omega) (q ++ [x]) (by simp [hq])
      refine Ev.step (f := fun k => laws_eqIntS.l0 k ((p ++ [x]) ++ s) ((q ++ [x]) ++ t) ((p ++ [x]).length : Int)) (fun k => ?_) (Ev.eq h (by simp))
      rw [laws_eqIntS.l0, if_pos (by simp <;> omega), if_pos (by omega), if_pos (by simp <;> omega), e1, e2, if_pos rfl, w64 (by omega) (by omega)]
      simp
    · refine Ev.step (f := fun _ => some false) (fun k => ?_) (Ev.val (by simp [e]))
      rw [laws_eqIntS.l0, if_pos (by simp <;> omega), if_pos (by omega), if_pos (by simp <;> omega), e1, e2, if_neg e]
theorem laws_eqIntS.ev (s t : List Int) (hl : s.length ≤ 35184372088832) : Ev (fun k => laws_eqIntS.f k s t) (decide (s = t)) := by
  unfold laws_eqIntS.f
  refine Ev.ite (fun h => ?_) (fun h => Ev.val ?_)
  · exact laws_eqIntS.ev_l s t hl [] (by simpa using hl) (by omega) [] rfl
  · have : s ≠ t := by rintro rfl; exact h rfl
    simp [this]
theorem spec_l1In.val (a b c : Int) : spec_l1In.f a b c = some (decide (b ≤ a) && decide (a ≤ c)) := by
  unfold spec_l1In.f
  by_cases h : a ≥ b
  · rw [if_pos h]; simp [show b ≤ a from h]
  · rw [if_neg h]; simp [show ¬ b ≤ a from h]
theorem spec_l1In.valB (a b c : Int) : spec_l1In.f a b c = some (inB a b c) := spec_l1In.val a b c
theorem impl_within.val (a b c : Int) : impl_within.f a b c = some (decide (b ≤ a) && decide (a ≤ c)) := by
  unfold impl_within.f
  by_cases h : b ≤ a
  · rw [if_pos h]; simp [h]
  · rw [if_neg h]; simp [h]
theorem impl_within.valB (a b c : Int) : impl_within.f a b c = some (inB a b c) := impl_within.val a b c
/-- No element is less than the one before. -/
def sortedB : List Int → Bool
  | [] => true
  | [_] => true
  | x :: y :: s => decide (x ≤ y) && sortedB (y :: s)
theorem sortedB_iff (l : List Int) : sortedB l = true ↔ ∀ i : Nat, ∀ h : i + 1 < l.length, l[i] ≤ l[i + 1] := by
  induction l with
  | nil => simp [sortedB]
  | cons x s ih =>
    cases s with
    | nil => simp [sortedB]
    | cons y s =>
      simp only [sortedB, Bool.and_eq_true, decide_eq_true_eq, ih]
      constructor
      · rintro ⟨h1, h2⟩ i hi
        cases i with
        | zero => exact h1
        | succ i => exact h2 i (by simpa using hi)
      · intro h
        exact ⟨h 0 (by simp), fun i hi => h (i + 1) (by simpa using hi)⟩
theorem ite_and (t x : Bool) : (if t = true then some x else some false) = some (t && x) := by cases t <;> rfl
def clueB (k a b : Int) : Bool :=
  if k = 0 then inB a 0 4 && b == 0
  else if k = 1 then inB a 0 24 && b == 0
  else if k = 3 then inB a 0 24 && b == 0
  else if k = 2 then inB a 0 24 && inB b 0 1
  else if k = 4 then inB a 0 24 && inB b 0 16
  else if k = 5 then inB a 1 6 && inB b 0 4
  else false
theorem spec_pzClue.ev (k a b : Int) : Ev (fun n => spec_pzClue.f n k a b) (clueB k a b) := by
  unfold spec_pzClue.f
  by_cases h0 : k = 0
  · refine Ev.pos h0 (Ev.const ?_)
    rw [spec_l1In.valB, Option.bind_some, ite_and]; simp [clueB, h0]
  · refine Ev.neg h0 ?_
    by_cases h1 : k = 1
    · refine Ev.pos h1 (Ev.step (f := fun _ => some (clueB k a b)) (fun n => ?_) (Ev.val rfl))
      subst h1
      rw [spec_pzClue.j0, if_pos (by rfl), spec_l1In.valB, Option.bind_some, ite_and]; simp [clueB]
    · refine Ev.neg h1 (Ev.step (f := fun _ => some (clueB k a b)) (fun n => ?_) (Ev.val rfl))
      rw [spec_pzClue.j0]
      by_cases h3 : k = 3
      · subst h3
        rw [if_pos (by rfl), spec_l1In.valB, Option.bind_some, ite_and]; simp [clueB]
      · rw [if_neg (by simp [h3])]
        simp only [spec_l1In.valB, Option.bind_some, ite_and]
        unfold clueB
        rw [if_neg h0, if_neg h1, if_neg h3]
        by_cases h2 : k = 2
        · rw [if_pos h2, if_pos h2]
        · rw [if_neg h2, if_neg h2]
          by_cases h4 : k = 4
          · rw [if_pos h4, if_pos h4]
          · rw [if_neg h4, if_neg h4]
            by_cases h5 : k = 5
            · rw [if_pos h5, if_pos h5]
            · rw [if_neg h5, if_neg h5]
theorem impl_IsClue.ev (k a b : Int) : Ev (fun n => impl_IsClue.f n k a b) (clueB k a b) := by
  unfold impl_IsClue.f
  by_cases h0 : k = 0
  · refine Ev.pos h0 (Ev.const ?_)
    rw [impl_within.valB, Option.bind_some, ite_and]; simp [clueB, h0]
  · refine Ev.neg h0 ?_
    by_cases h1 : k = 1
    · refine Ev.pos h1 (Ev.step (f := fun _ => some (clueB k a b)) (fun n => ?_) (Ev.val rfl))
      subst h1
      rw [impl_IsClue.j0, if_pos (by rfl), impl_within.valB, Option.bind_some, ite_and]; simp [clueB]
    · refine Ev.neg h1 (Ev.step (f := fun _ => some (clueB k a b)) (fun n => ?_) (Ev.val rfl))
      rw [impl_IsClue.j0]
      by_cases h3 : k = 3
      · subst h3
        rw [if_pos (by rfl), impl_within.valB, Option.bind_some, ite_and]; simp [clueB]
      · rw [if_neg (by simp [h3])]
        simp only [impl_within.valB, Option.bind_some, ite_and]
        unfold clueB
        rw [if_neg h0, if_neg h1, if_neg h3]
        by_cases h2 : k = 2
        · rw [if_pos h2, if_pos h2]
        · rw [if_neg h2, if_neg h2]
          by_cases h4 : k = 4
          · rw [if_pos h4, if_pos h4]
          · rw [if_neg h4, if_neg h4]
            by_cases h5 : k = 5
            · rw [if_pos h5, if_pos h5]
            · rw [if_neg h5, if_neg h5]
theorem laws_toClue.val (k a b : Int) : laws_toClue.f k a b = some (k, a, b) := rfl
def clueIn (c : S103) : S76 := ⟨c.f0, c.f1, c.f2⟩
theorem laws_szClueS.val (l : List S103) (hl : l.length ≤ 9223372036854775807) : laws_szClueS.f l 1048576 = some (if 1048576 < (l.length : Int) then (-1 : Int) else 1048576 - (l.length : Int)) := by
  unfold laws_szClueS.f
  rw [w64 (by omega) (by omega)]
  by_cases h : 1048576 < (l.length : Int)
  · rw [if_pos (by omega), if_pos h]
  · rw [if_neg (by omega), if_neg h]
theorem laws_szPuzzle.val (l : List S103) (hl : l.length ≤ 9223372036854775807) : laws_szPuzzle.f l 1048576 = some (if 1048576 < (l.length : Int) then (-1 : Int) else 1048576 - (l.length : Int)) := by
  unfold laws_szPuzzle.f
  rw [laws_szClueS.val l hl, Option.bind_some]
  by_cases h : 1048576 < (l.length : Int)
  · rw [if_pos h, if_pos (by omega)]
  · rw [if_neg h, if_neg (by omega)]
theorem rd_TL_app (p : List S103) (x : S103) (s : List S103) : rd_T103 (p ++ x :: s) (p.length : Int) = x := by simp [rd_T103, List.getD_eq_getElem?_getD]
theorem laws_toClueS.ev_l (s : List S103) : ∀ (p : List S103) (q r : List S76), p.length + s.length ≤ 9223372036854775806 → q.length = p.length → r.length = s.length → Ev (fun k => laws_toClueS.l0 k (p ++ s) (q ++ r) (p.length : Int)) (q ++ s.map clueIn) := by
  induction s with
  | nil =>
    intro p q r hp hq hr
    obtain rfl : r = [] := List.eq_nil_of_length_eq_zero (by simpa using hr)
    refine Ev.step (f := fun _ => some (q ++ [])) (fun k => ?_) (Ev.val (by simp))
    rw [laws_toClueS.l0, if_neg (by simp)]
  | cons x s ih =>
    intro p q r hp hq hr
    obtain _ | ⟨y, r⟩ := r
    · simp at hr
    simp only [List.length_cons] at hp hr
    have h := ih (p ++ [x]) (q ++ [clueIn x]) r (by simp <;> omega) (by simp [hq]) (by omega)
    refine Ev.step (f := fun k => laws_toClueS.l0 k ((p ++ [x]) ++ s) ((q ++ [clueIn x]) ++ r) ((p ++ [x]).length : Int)) (fun k => ?_) (Ev.eq h (by simp))
    rw [laws_toClueS.l0, if_pos (by simp <;> omega), if_pos (by omega), rd_TL_app, laws_toClue.val, Option.bind_some, if_pos (by simp <;> omega), w64 (by omega) (by omega)]
    have e : (q ++ y :: r).set (p.length : Int).toNat (clueIn x) = (q ++ [clueIn x]) ++ r := by
      rw [show (p.length : Int).toNat = q.length by omega, List.set_append_right _ _ (Nat.le_refl _)]
      simp
    simp only [clueIn] at e ⊢
    rw [e]
    simp
theorem laws_toClueS.ev (l : List S103) (hl : (l.length : Int) ≤ 1048576) : Ev (fun k => laws_toClueS.f k l) (l.map clueIn) := by
  have h := laws_toClueS.ev_l l [] [] (List.replicate l.length z76) (by simp <;> omega) rfl (by simp)
  refine Ev.congr (fun k => ?_) h
  simp only [laws_toClueS.f]
  rw [if_pos (by omega), if_pos (by omega)]
  simp
theorem laws_toPuzzle.ev (l : List S103) (hl : (l.length : Int) ≤ 1048576) : Ev (fun k => laws_toPuzzle.f k l) (l.map clueIn) := by
  unfold laws_toPuzzle.f
  exact Ev.bind (laws_toClueS.ev l hl) (Ev.val rfl)
theorem rd_TI_app (p : List S76) (x : S76) (s : List S76) : rd_T76 (p ++ x :: s) (p.length : Int) = x := by simp [rd_T76, List.getD_eq_getElem?_getD]
theorem laws_eqClueS.same_l (s : List S76) : ∀ (p : List S76), p.length + s.length ≤ 9223372036854775806 → Ev (fun k => laws_eqClueS.l0 k (p ++ s) (p ++ s) (p.length : Int)) true := by
  induction s with
  | nil =>
    intro p hp
    refine Ev.step (f := fun _ => some true) (fun k => ?_) (Ev.val rfl)
    rw [laws_eqClueS.l0, if_neg (by simp)]
  | cons x s ih =>
    intro p hp
    simp only [List.length_cons] at hp
    have h := ih (p ++ [x]) (by simp <;> omega)
    refine Ev.step (f := fun k => laws_eqClueS.l0 k ((p ++ [x]) ++ s) ((p ++ [x]) ++ s) ((p ++ [x]).length : Int)) (fun k => ?_) h
    rw [laws_eqClueS.l0, if_pos (by simp <;> omega), if_pos (by omega), if_pos (by simp <;> omega), rd_TI_app]
    simp only [laws_eqClue.f, if_true, Option.bind_some]
    rw [w64 (by omega) (by omega)]
    simp
theorem laws_eqPuzzle.same (l : List S76) (hl : l.length ≤ 9223372036854775806) : Ev (fun k => laws_eqPuzzle.f k l l) true := by
  unfold laws_eqPuzzle.f laws_eqClueS.f
  refine Ev.bind (Ev.pos rfl (laws_eqClueS.same_l l [] (by simpa using hl))) (Ev.pos rfl (Ev.val rfl))
def puzzleB (l : List S76) : Bool := decide (l.length ≤ 6) && l.all fun c => clueB c.f0 c.f1 c.f2
theorem spec_pzGood.ev_l (s : List S76) : ∀ (p : List S76), p.length + s.length ≤ 9223372036854775806 → Ev (fun k => spec_pzGood.l0 k (p ++ s) ((p ++ s).length : Int) (p.length : Int)) (s.all fun c => clueB c.f0 c.f1 c.f2) := by
  induction s with
  | nil =>
    intro p hp
    refine Ev.step (f := fun _ => some true) (fun k => ?_) (Ev.val rfl)
    rw [spec_pzGood.l0, if_neg (by simp)]
  | cons x s ih =>
    intro p hp
    simp only [List.length_cons] at hp
    have h := ih (p ++ [x]) (by simp <;> omega)
    refine Ev.step (f := fun k => (spec_pzClue.f k x.f0 x.f1 x.f2).bind fun t => if t = true then spec_pzGood.l0 k ((p ++ [x]) ++ s) (((p ++ [x]) ++ s).length : Int) ((p ++ [x]).length : Int) else some false) (fun k => ?_) (Ev.bind (spec_pzClue.ev _ _ _) ?_)
    · rw [spec_pzGood.l0, if_pos (by simp <;> omega), if_pos (by omega), if_pos (by simp <;> omega), rd_TI_app, w64 (by omega) (by omega)]
      simp
    · simp only [List.all_cons]
      refine Ev.ite (fun c => Ev.eq h (by rw [c]; rfl)) (fun c => Ev.val (by rw [Bool.not_eq_true] at c; rw [c]; rfl))
theorem spec_pzGood.ev (l : List S76) : Ev (fun k => spec_pzGood.f k l) (puzzleB l) := by
  unfold spec_pzGood.f puzzleB
  refine Ev.ite (fun c => Ev.val ?_) (fun c => ?_)
  · rw [decide_eq_false (by omega)]; rfl
  · rw [decide_eq_true (by omega)]
    exact spec_pzGood.ev_l l [] (by simp <;> omega)
theorem idxO_ev {α : Type} (p : Nat → α → Option Bool) (P : α → Bool) (hp : ∀ x, Ev (fun k => p k x) (P x)) : ∀ (l : List α) (i : Int), 0 ≤ i → ∃ r, Ev (fun k => idxO (p k) l i) r ∧ decide (0 ≤ r) = l.any P
  | [], i, hi => ⟨-1, Ev.val rfl, rfl⟩
  | x :: s, i, hi => by
    obtain ⟨r, h1, h2⟩ := idxO_ev p P hp s (i + 1) (by omega)
    cases c : P x with
    | true => exact ⟨i, Ev.bind (hp x) (Ev.pos c (Ev.val rfl)), by rw [List.any_cons, c]; simp [hi]⟩
    | false => exact ⟨r, Ev.bind (hp x) (Ev.neg (by simp [c]) h1), by rw [List.any_cons, c, h2]; rfl⟩
theorem impl_IsPuzzle_1.ev (k a b : Int) : Ev (fun n => impl_IsPuzzle_1.f n k a b) (!clueB k a b) := by
  unfold impl_IsPuzzle_1.f
  exact Ev.bind (impl_IsClue.ev k a b) (Ev.val rfl)
theorem impl_IsPuzzle.ev (l : List S76) : Ev (fun k => impl_IsPuzzle.f k l) (puzzleB l) := by
  unfold impl_IsPuzzle.f puzzleB
  obtain ⟨r, h1, h2⟩ := idxO_ev (fun k (x : S76) => impl_IsPuzzle_1.f k x.f0 x.f1 x.f2) (fun x => !clueB x.f0 x.f1 x.f2) (fun x => impl_IsPuzzle_1.ev _ _ _) l 0 (by omega)
  refine Ev.ite (fun c => Ev.bind h1 (Ev.val ?_)) (fun c => Ev.val ?_)
  · rw [h2, decide_eq_true (by omega), List.any_eq_not_all_not]; simp
  · rw [decide_eq_false (by omega)]; rfl
/-- Each element is greater than the one before. -/
def risesB : List Int → Bool
  | [] => true
  | [_] => true
  | x :: y :: s => decide (x < y) && risesB (y :: s)
def ruGoodB (l : List Int) : Bool := decide (2 ≤ l.length) && ((l.all fun x => inB x 0 60) && risesB l) && rd l 0 == 0
theorem risesB_head {x : Int} {s : List Int} (h : risesB (x :: s) = true) : ∀ y ∈ s, x < y := by
  induction s generalizing x with
  | nil => simp
  | cons z s ih =>
    simp only [risesB, Bool.and_eq_true, decide_eq_true_eq] at h
    intro y hy
    rcases List.mem_cons.1 hy with rfl | hy
    · exact h.1
    · have := ih h.2 y hy; omega
theorem risesB_last {l : List Int} (h : risesB l = true) (hne : l ≠ []) : ∀ y ∈ l, y ≤ l.getLast hne := by
  induction l with
  | nil => exact absurd rfl hne
  | cons x s ih =>
    intro y hy
    cases s with
    | nil => simp at hy; simp [hy]
    | cons z s =>
      have h2 : risesB (z :: s) = true := by simp only [risesB, Bool.and_eq_true] at h; exact h.2
      rw [List.getLast_cons (by simp)]
      rcases List.mem_cons.1 hy with rfl | hy
      · have h1 := risesB_head h z (by simp)
        have := ih h2 (by simp) z (by simp)
        omega
      · exact ih h2 (by simp) y hy
theorem rd_last (x : Int) (s : List Int) : rd (x :: s) (s.length : Int) = (x :: s).getLast (by simp) := by
  rw [List.getLast_eq_getElem, rd_eq (x :: s) s.length (by simp)]
  simp
def markedC : List S76 → Int → List S76
  | [], _ => []
  | _ :: s, a => ⟨a, a + 1, a + 2⟩ :: markedC s (a + 3)
theorem markedC_length (s : List S76) (a : Int) : (markedC s a).length = s.length := by
  induction s generalizing a with
  | nil => rfl
  | cons x s ih => simp [markedC, ih]
theorem rd_TI_set (p : List S76) (x y : S76) (s : List S76) : (p ++ x :: s).set (p.length : Int).toNat y = p ++ y :: s := by
  rw [Int.toNat_natCast, List.set_append_right _ _ (Nat.le_refl _)]; simp
theorem laws_markClueS.ev_l (s : List S76) : ∀ (p : List S76) (a : Int), p.length + s.length ≤ 1000000000000000000 → 0 ≤ a → a + 3 * s.length ≤ 4000000000000000000 → Ev (fun k => laws_markClueS.l0 k (p ++ s) a (p.length : Int)) (a + 3 * s.length, p ++ markedC s a) := by
  induction s with
  | nil =>
    intro p a hp h0 h1
    refine Ev.step (f := fun _ => some (a, p ++ [])) (fun k => ?_) (Ev.val (by simp [markedC]))
    rw [laws_markClueS.l0, if_neg (by simp)]
  | cons x s ih =>
    intro p a hp h0 h1
    simp only [List.length_cons] at hp h1
    have h := ih (p ++ [⟨a, a + 1, a + 2⟩]) (a + 3) (by simp; omega) (by omega) (by omega)
    refine Ev.step (f := fun k => laws_markClueS.l0 k ((p ++ [⟨a, a + 1, a + 2⟩]) ++ s) (a + 3) ((p ++ [(⟨a, a + 1, a + 2⟩ : S76)]).length : Int)) (fun k => ?_) (Ev.eq h ?_)
    · rw [laws_markClueS.l0, if_pos (by simp <;> omega), if_pos (by omega)]
      simp only [rd_TI_app, rd_TI_set, Option.bind_some]
      rw [w64 (n := a + 1) (by omega) (by omega), w64 (n := a + 1 + 1) (by omega) (by omega), w64 (n := a + 1 + 1 + 1) (by omega) (by omega), w64 (by omega) (by omega)]
      rw [show a + 1 + 1 + 1 = a + 3 by omega, show a + 1 + 1 = a + 2 by omega]
      simp
    · simp [markedC]; omega
theorem laws_puzzle.mark (l : List S76) (hl : l.length ≤ 1000000000000000000) : Ev (fun k => laws_markPuzzle.f k l 1) ((1 + 3 * l.length : Int), markedC l 1) := by
  unfold laws_markPuzzle.f laws_markClueS.f
  exact Ev.bind (laws_markClueS.ev_l l [] 1 (by simpa using hl) (by omega) (by omega)) (Ev.val rfl)
def numsFrom : Nat → Int → List Int
  | 0, _ => []
  | n + 1, m => m :: numsFrom n (m + 1)
theorem rd_set (p : List Int) (x y : Int) (s : List Int) : (p ++ x :: s).set (p.length : Int).toNat y = p ++ y :: s := by
  rw [Int.toNat_natCast, List.set_append_right _ _ (Nat.le_refl _)]; simp
theorem laws_markIntS.ev_l (s : List Int) : ∀ (p : List Int) (a : Int), p.length + s.length ≤ 1000000000000000000 → 0 ≤ a → a + s.length ≤ 4000000000000000000 → Ev (fun k => laws_markIntS.l0 k (p ++ s) a (p.length : Int)) (a + s.length, p ++ numsFrom s.length a) := by
  induction s with
  | nil =>
    intro p a hp h0 h1
    refine Ev.step (f := fun _ => some (a, p ++ [])) (fun k => ?_) (Ev.val (by simp [numsFrom]))
    rw [laws_markIntS.l0, if_neg (by simp)]
  | cons x s ih =>
    intro p a hp h0 h1
    simp only [List.length_cons] at hp h1
    have h := ih (p ++ [a]) (a + 1) (by simp; omega) (by omega) (by omega)
    refine Ev.step (f := fun k => laws_markIntS.l0 k ((p ++ [a]) ++ s) (a + 1) ((p ++ [a]).length : Int)) (fun k => ?_) (Ev.eq h ?_)
    · rw [laws_markIntS.l0, if_pos (by simp <;> omega), if_pos (by omega), rd_set, w64 (n := a + 1) (by omega) (by omega), w64 (by omega) (by omega)]
      simp
    · simp [numsFrom]; omega
theorem laws_markIntS.ev (l : List Int) (hl : l.length ≤ 1000000000000000000) : Ev (fun k => laws_markIntS.f k l 1) ((1 + l.length : Int), numsFrom l.length 1) := by
  unfold laws_markIntS.f
  exact laws_markIntS.ev_l l [] 1 (by simpa using hl) (by omega) (by omega)
theorem laws_heldIntS.ev_l : ∀ (n : Nat) (p : List Int) (a : Int), p.length + n ≤ 1000000000000000000 → 0 ≤ a → a + n ≤ 4000000000000000000 → Ev (fun k => laws_heldIntS.l0 k (p ++ numsFrom n a) a (p.length : Int)) (a + n) := by
  intro n
  induction n with
  | zero =>
    intro p a hp h0 h1
    refine Ev.step (f := fun _ => some a) (fun k => ?_) (Ev.val (by simp))
    rw [laws_heldIntS.l0, if_neg (by simp [numsFrom])]
  | succ n ih =>
    intro p a hp h0 h1
    have h := ih (p ++ [a]) (a + 1) (by simp; omega) (by omega) (by omega)
    refine Ev.step (f := fun k => laws_heldIntS.l0 k ((p ++ [a]) ++ numsFrom n (a + 1)) (a + 1) ((p ++ [a]).length : Int)) (fun k => ?_) (Ev.eq h (by omega))
    simp only [numsFrom]
    rw [laws_heldIntS.l0, if_pos (by simp <;> omega), if_pos (by omega), rd_app, if_pos rfl, w64 (n := a + 1) (by omega) (by omega), w64 (by omega) (by omega)]
    simp
theorem laws_heldIntS.ev (n : Nat) (hn : n ≤ 1000000000000000000) : Ev (fun k => laws_heldIntS.f k (numsFrom n 1) 1) (1 + n : Int) := by
  unfold laws_heldIntS.f
  exact laws_heldIntS.ev_l n [] 1 (by simpa using hn) (by omega) (by omega)
theorem puzzleB_length {l : List S76} (h : puzzleB l = true) : l.length ≤ 6 := by unfold puzzleB at h; simp at h; exact h.1
/-- A table of N values. -/
def tab (N : Nat) (f : Int → Int) : List Int := (List.range N).map fun (i : Nat) => f (i : Int)
theorem tab_length (N : Nat) (f : Int → Int) : (tab N f).length = N := by simp [tab]
theorem rd_tab (N : Nat) (f : Int → Int) (i : Int) (h0 : 0 ≤ i) (h1 : i < N) : rd (tab N f) i = f i := by
  obtain ⟨n, rfl⟩ := Int.eq_ofNat_of_zero_le h0
  rw [rd_eq _ _ (by rw [tab_length]; omega)]
  simp [tab]
theorem tab_congr (N : Nat) (f g : Int → Int) (h : ∀ i : Int, 0 ≤ i → i < N → f i = g i) : tab N f = tab N g := by
  unfold tab
  apply List.map_congr_left
  intro i hi
  exact h i (by omega) (by have := List.mem_range.1 hi; omega)
theorem tab_set (N : Nat) (f : Int → Int) (i : Int) (v : Int) (h0 : 0 ≤ i) : (tab N f).set i.toNat v = tab N (fun j => if j = i then v else f j) := by
  obtain ⟨n, rfl⟩ := Int.eq_ofNat_of_zero_le h0
  apply List.ext_getElem?
  intro j
  unfold tab
  by_cases hj : j < N
  · by_cases e : n = j
    · subst e
      simp [hj]
    · rw [List.getElem?_set_ne (by simpa using e)]
      simp [hj]
      omega
  · rw [List.getElem?_eq_none (by simp; omega), List.getElem?_eq_none (by simp; omega)]
/-- How many ways there are to make s of some of the pieces. -/
def cnt : List Int → Int → Int
  | [], s => if s = 0 then 1 else 0
  | x :: t, s => cnt t s + cnt t (s - x)
theorem cnt_snoc (l : List Int) (n s : Int) : cnt (l ++ [n]) s = cnt l s + cnt l (s - n) := by
  induction l generalizing s with
  | nil => simp [cnt]
  | cons x t ih =>
    simp only [List.cons_append, cnt, ih]
    rw [show s - x - n = s - n - x by omega]; omega
theorem cnt_nonneg (l : List Int) (s : Int) : 0 ≤ cnt l s := by
  induction l generalizing s with
  | nil => unfold cnt; split <;> omega
  | cons x t ih => have h1 := ih s; have h2 := ih (s - x); unfold cnt; omega
theorem cnt_le (l : List Int) (s : Int) : cnt l s ≤ 2 ^ l.length := by
  induction l generalizing s with
  | nil => unfold cnt; split <;> simp
  | cons x t ih =>
    have h1 := ih s; have h2 := ih (s - x)
    unfold cnt
    rw [List.length_cons, Int.pow_succ]; omega
theorem cnt_neg (l : List Int) (hl : ∀ x ∈ l, 0 ≤ x) (s : Int) (h : s < 0) : cnt l s = 0 := by
  induction l generalizing s with
  | nil => unfold cnt; rw [if_neg (by omega)]
  | cons x t ih =>
    have hx := hl x (by simp)
    unfold cnt
    rw [ih (fun y hy => hl y (by simp [hy])) s h, ih (fun y hy => hl y (by simp [hy])) (s - x) (by omega)]; rfl
theorem sum_nonneg (l : List Int) (hl : ∀ x ∈ l, 0 ≤ x) : 0 ≤ l.sum := by
  induction l with
  | nil => simp
  | cons x t ih =>
    have hx := hl x (by simp)
    have := ih (fun y hy => hl y (by simp [hy]))
    rw [List.sum_cons]; omega
theorem cnt_above (l : List Int) (hl : ∀ x ∈ l, 0 ≤ x) (s : Int) (h : l.sum < s) : cnt l s = 0 := by
  induction l generalizing s with
  | nil => unfold cnt; rw [if_neg (by simp at h; omega)]
  | cons x t ih =>
    have hx := hl x (by simp)
    rw [List.sum_cons] at h
    unfold cnt
    rw [ih (fun y hy => hl y (by simp [hy])) s (by omega), ih (fun y hy => hl y (by simp [hy])) (s - x) (by omega)]; rfl
theorem pow_le_20 {n : Nat} (h : n ≤ 20) : (2 : Int) ^ n ≤ 1048576 := by
  have : (2 : Nat) ^ n ≤ 2 ^ 20 := Nat.pow_le_pow_right (by omega) h
  have e : ((2 : Int) ^ n) = ((2 ^ n : Nat) : Int) := by simp
  rw [e]; omega
theorem sum_le (l : List Int) (B : Int) (hl : ∀ x ∈ l, x ≤ B) : l.sum ≤ l.length * B := by
  induction l with
  | nil => simp
  | cons x t ih =>
    have hx := hl x (by simp)
    have := ih (fun y hy => hl y (by simp [hy]))
    rw [List.sum_cons, List.length_cons]
    have e : ((t.length + 1 : Nat) : Int) * B = t.length * B + B := by
      rw [show ((t.length + 1 : Nat) : Int) = (t.length : Int) + 1 by omega, Int.add_mul]; omega
    omega
/-- Up to where all sums can be made of pieces in order. -/
def runL : List Int → Int → Int
  | [], a => a
  | x :: t, a => if x > a + 1 then a else runL t (a + x)
theorem impl_total.ev_l (s : List Int) : ∀ (p : List Int) (a : Int), p.length + s.length ≤ 1000000000 → 0 ≤ a → (∀ x ∈ s, 0 ≤ x) → a + s.sum ≤ 1000000000 → Ev (fun k => impl_total.l0 k a (p ++ s) ((p ++ s).length : Int) (p.length : Int)) (a + s.sum) := by
  induction s with
  | nil =>
    intro p a hp h0 hs hsum
    refine Ev.step (f := fun _ => some a) (fun k => ?_) (Ev.val (by simp))
    rw [impl_total.l0, if_neg (by simp)]
  | cons x s ih =>
    intro p a hp h0 hs hsum
    simp only [List.length_cons] at hp
    rw [List.sum_cons] at hsum
    have hx := hs x (by simp)
    have hs' : ∀ y ∈ s, 0 ≤ y := fun y hy => hs y (by simp [hy])
    have hsn := sum_nonneg s hs'
    have h := ih (p ++ [x]) (a + x) (by simp <;> omega) (by omega) hs' (by omega)
    refine Ev.step (f := fun k => impl_total.l0 k (a + x) ((p ++ [x]) ++ s) (((p ++ [x]) ++ s).length : Int) ((p ++ [x]).length : Int)) (fun k => ?_) (Ev.eq h (by rw [List.sum_cons]; omega))
    rw [impl_total.l0, if_pos (by simp <;> omega), if_pos (by omega), if_pos (by simp <;> omega), rd_app, w64 (n := a + x) (by omega) (by omega), w64 (by omega) (by omega)]
    simp
theorem impl_total.ev (l : List Int) (hl : l.length ≤ 1000000000) (h0 : ∀ x ∈ l, 0 ≤ x) (hs : l.sum ≤ 1000000000) : Ev (fun k => impl_total.f k l) l.sum := by
  have h := impl_total.ev_l l [] 0 (by simpa using hl) (by omega) h0 (by omega)
  exact Ev.eq h (by omega)
theorem spec_piSum.ev_l (s : List Int) : ∀ (p : List Int) (a : Int), p.length + s.length ≤ 1000000000 → 0 ≤ a → (∀ x ∈ s, 0 ≤ x) → a + s.sum ≤ 1000000000 → Ev (fun k => spec_piSum.l0 k a (p ++ s) ((p ++ s).length : Int) (p.length : Int)) (a + s.sum) := by
  induction s with
  | nil =>
    intro p a hp h0 hs hsum
    refine Ev.step (f := fun _ => some a) (fun k => ?_) (Ev.val (by simp))
    rw [spec_piSum.l0, if_neg (by simp)]
  | cons x s ih =>
    intro p a hp h0 hs hsum
    simp only [List.length_cons] at hp
    rw [List.sum_cons] at hsum
    have hx := hs x (by simp)
    have hs' : ∀ y ∈ s, 0 ≤ y := fun y hy => hs y (by simp [hy])
    have hsn := sum_nonneg s hs'
    have h := ih (p ++ [x]) (a + x) (by simp <;> omega) (by omega) hs' (by omega)
    refine Ev.step (f := fun k => spec_piSum.l0 k (a + x) ((p ++ [x]) ++ s) (((p ++ [x]) ++ s).length : Int) ((p ++ [x]).length : Int)) (fun k => ?_) (Ev.eq h (by rw [List.sum_cons]; omega))
    rw [spec_piSum.l0, if_pos (by simp <;> omega), if_pos (by omega), if_pos (by simp <;> omega), rd_app, w64 (n := a + x) (by omega) (by omega), w64 (by omega) (by omega)]
    simp
theorem spec_piSum.ev (l : List Int) (hl : l.length ≤ 1000000000) (h0 : ∀ x ∈ l, 0 ≤ x) (hs : l.sum ≤ 1000000000) : Ev (fun k => spec_piSum.f k l) l.sum := by
  have h := spec_piSum.ev_l l [] 0 (by simpa using hl) (by omega) h0 (by omega)
  exact Ev.eq h (by omega)
theorem impl_run.ev_l (s : List Int) : ∀ (p : List Int) (a : Int), p.length + s.length ≤ 1000000000 → 0 ≤ a → (∀ x ∈ s, 0 ≤ x) → a + s.sum ≤ 1000000000 → Ev (fun k => impl_run.l0 k a (p ++ s) ((p ++ s).length : Int) (p.length : Int)) (runL s a) := by
  induction s with
  | nil =>
    intro p a hp h0 hs hsum
    refine Ev.step (f := fun _ => some a) (fun k => ?_) (Ev.val (by simp [runL]))
    rw [impl_run.l0, if_neg (by simp)]
  | cons x s ih =>
    intro p a hp h0 hs hsum
    simp only [List.length_cons] at hp
    rw [List.sum_cons] at hsum
    have hx := hs x (by simp)
    have hs' : ∀ y ∈ s, 0 ≤ y := fun y hy => hs y (by simp [hy])
    have hsn := sum_nonneg s hs'
    have h := ih (p ++ [x]) (a + x) (by simp <;> omega) (by omega) hs' (by omega)
    by_cases c : x > a + 1
    · refine Ev.step (f := fun _ => some a) (fun k => ?_) (Ev.val (by rw [runL, if_pos c]))
      rw [impl_run.l0, if_pos (by simp <;> omega), if_pos (by omega), if_pos (by simp <;> omega), rd_app, w64 (n := a + 1) (by omega) (by omega), if_pos c]
    · refine Ev.step (f := fun k => impl_run.l0 k (a + x) ((p ++ [x]) ++ s) (((p ++ [x]) ++ s).length : Int) ((p ++ [x]).length : Int)) (fun k => ?_) (Ev.eq h (by rw [runL, if_neg c]))
      rw [impl_run.l0, if_pos (by simp <;> omega), if_pos (by omega), if_pos (by simp <;> omega), rd_app, w64 (n := a + 1) (by omega) (by omega), if_neg c, w64 (n := a + x) (by omega) (by omega), w64 (by omega) (by omega)]
      simp
theorem impl_run.ev (l : List Int) (hl : l.length ≤ 1000000000) (h0 : ∀ x ∈ l, 0 ≤ x) (hs : l.sum ≤ 1000000000) : Ev (fun k => impl_run.f k l) (runL l 0) := by
  exact impl_run.ev_l l [] 0 (by simpa using hl) (by omega) h0 (by omega)
theorem spec_piRun.ev_l (s : List Int) : ∀ (p : List Int) (a : Int), p.length + s.length ≤ 1000000000 → 0 ≤ a → (∀ x ∈ s, 0 ≤ x) → a + s.sum ≤ 1000000000 → Ev (fun k => spec_piRun.l0 k a (p ++ s) ((p ++ s).length : Int) (p.length : Int)) (runL s a) := by
  induction s with
  | nil =>
    intro p a hp h0 hs hsum
    refine Ev.step (f := fun _ => some a) (fun k => ?_) (Ev.val (by simp [runL]))
    rw [spec_piRun.l0, if_neg (by simp)]
  | cons x s ih =>
    intro p a hp h0 hs hsum
    simp only [List.length_cons] at hp
    rw [List.sum_cons] at hsum
    have hx := hs x (by simp)
    have hs' : ∀ y ∈ s, 0 ≤ y := fun y hy => hs y (by simp [hy])
    have hsn := sum_nonneg s hs'
    have h := ih (p ++ [x]) (a + x) (by simp <;> omega) (by omega) hs' (by omega)
    by_cases c : x > a + 1
    · refine Ev.step (f := fun _ => some a) (fun k => ?_) (Ev.val (by rw [runL, if_pos c]))
      rw [spec_piRun.l0, if_pos (by simp <;> omega), if_pos (by omega), if_pos (by simp <;> omega), rd_app, w64 (n := a + 1) (by omega) (by omega), if_pos c]
    · refine Ev.step (f := fun k => spec_piRun.l0 k (a + x) ((p ++ [x]) ++ s) (((p ++ [x]) ++ s).length : Int) ((p ++ [x]).length : Int)) (fun k => ?_) (Ev.eq h (by rw [runL, if_neg c]))
      rw [spec_piRun.l0, if_pos (by simp <;> omega), if_pos (by omega), if_pos (by simp <;> omega), rd_app, w64 (n := a + 1) (by omega) (by omega), if_neg c, w64 (n := a + x) (by omega) (by omega), w64 (by omega) (by omega)]
      simp
theorem spec_piRun.ev (l : List Int) (hl : l.length ≤ 1000000000) (h0 : ∀ x ∈ l, 0 ≤ x) (hs : l.sum ≤ 1000000000) : Ev (fun k => spec_piRun.f k l) (runL l 0) := by
  exact spec_piRun.ev_l l [] 0 (by simpa using hl) (by omega) h0 (by omega)
theorem impl_ways.ev_in {R : List Int} (N : Nat) (hN : N ≤ 1000000001) (p : Int) (hp : 1 ≤ p) (f : Int → Int) (hf : ∀ j, 0 ≤ f j ∧ f j ≤ 2000000000) (L : List Int) (n i : Int) (next : Ev (fun k => impl_ways.l0 k (tab N fun j => if p ≤ j then f j + f (j - p) else f j) L n (wrap64 (i + 1))) R) :
    ∀ (d : Nat) (s : Int), s < N → -1 ≤ s → s + 1 = d → Ev (fun k => impl_ways.l1 k (tab N fun j => if p ≤ j ∧ s < j then f j + f (j - p) else f j) p s L n i) R := by
  intro d
  induction d with
  | zero =>
    intro s h1 h2 h3
    refine Ev.step (fun k => ?_) next
    rw [impl_ways.l1, if_neg (by omega)]
    congr 1
    apply tab_congr
    intro j hj0 hj1
    by_cases c : p ≤ j
    · rw [if_pos ⟨c, by omega⟩, if_pos c]
    · rw [if_neg (by omega), if_neg c]
  | succ d ih =>
    intro s h1 h2 h3
    by_cases c : s ≥ p
    · have h := ih (s - 1) (by omega) (by omega) (by omega)
      refine Ev.step (fun k => ?_) h
      rw [impl_ways.l1, if_pos c, if_pos (by omega), if_pos (by rw [tab_length]; omega), w64 (n := s - p) (by omega) (by omega), if_pos (by omega), if_pos (by rw [tab_length]; omega), rd_tab _ _ _ (by omega) (by omega), rd_tab _ _ _ (by omega) (by omega)]
      have f1 := hf s
      have f2 := hf (s - p)
      rw [if_neg (by omega), if_neg (by omega), w64 (by omega) (by omega), w64 (n := s - 1) (by omega) (by omega), tab_set _ _ _ _ (by omega)]
      congr 1
      apply tab_congr
      intro j hj0 hj1
      by_cases e : j = s
      · subst e; rw [if_pos rfl, if_pos ⟨by omega, by omega⟩]
      · rw [if_neg e]
        by_cases e2 : p ≤ j ∧ s < j
        · rw [if_pos e2, if_pos ⟨by omega, by omega⟩]
        · rw [if_neg e2, if_neg (by omega)]
    · refine Ev.step (fun k => ?_) next
      rw [impl_ways.l1, if_neg c]
      congr 1
      apply tab_congr
      intro j hj0 hj1
      by_cases c : p ≤ j
      · rw [if_pos ⟨c, by omega⟩, if_pos c]
      · rw [if_neg (by omega), if_neg c]
theorem impl_ways.ev_l (N : Nat) (hN : N ≤ 1000000001) (s : List Int) : ∀ (q : List Int), q.length + s.length ≤ 20 → (∀ x ∈ s, 1 ≤ x) → (∀ x ∈ q, 1 ≤ x) → Ev (fun k => impl_ways.l0 k (tab N (cnt q)) (q ++ s) ((q ++ s).length : Int) (q.length : Int)) (tab N (cnt (q ++ s))) := by
  induction s with
  | nil =>
    intro q hq hs hq1
    refine Ev.step (f := fun _ => some (tab N (cnt q))) (fun k => ?_) (Ev.val (by simp))
    rw [impl_ways.l0, if_neg (by simp)]
  | cons x s ih =>
    intro q hq hs hq1
    simp only [List.length_cons] at hq
    have h := ih (q ++ [x]) (by simp <;> omega) (fun y hy => hs y (by simp [hy])) (fun y hy => (List.mem_append.1 hy).elim (hq1 y) (fun h => by simp at h; rw [h]; exact hs x (by simp)))
    have hx := hs x (by simp)
    have hcn : ∀ j, cnt q j ≤ 1048576 := fun j => Int.le_trans (cnt_le q j) (pow_le_20 (by omega))
    have e : (tab N fun j => if x ≤ j then cnt q j + cnt q (j - x) else cnt q j) = tab N (cnt (q ++ [x])) := by
      apply tab_congr
      intro j hj0 hj1
      rw [cnt_snoc]
      by_cases c : x ≤ j
      · rw [if_pos c]
      · rw [if_neg c, cnt_neg q (fun y hy => by have := hq1 y hy; omega) (j - x) (by omega)]; omega
    have hin := impl_ways.ev_in (R := tab N (cnt (q ++ x :: s))) N hN x hx (cnt q) (fun j => ⟨cnt_nonneg q j, by have := hcn j; omega⟩) (q ++ x :: s) ((q ++ x :: s).length : Int) (q.length : Int) (by
      rw [e, w64 (by omega) (by omega)]
      have := h
      simpa using this) N ((N : Int) - 1) (by omega) (by omega) (by omega)
    refine Ev.step (fun k => ?_) hin
    rw [impl_ways.l0, if_pos (by simp <;> omega), if_pos (by omega), if_pos (by simp <;> omega), rd_app, tab_length, w64 (n := (N : Int) - 1) (by omega) (by omega)]
    congr 1
    apply tab_congr
    intro j hj0 hj1
    rw [if_neg (by omega)]
theorem impl_ways.ev (l : List Int) (hl : l.length ≤ 20) (h1 : ∀ x ∈ l, 1 ≤ x) (hs : l.sum ≤ 1000000000) : Ev (fun k => impl_ways.f k l) (tab (l.sum.toNat + 1) (cnt l)) := by
  have h0 : ∀ x ∈ l, 0 ≤ x := fun x hx => by have := h1 x hx; omega
  have hn := sum_nonneg l h0
  unfold impl_ways.f
  refine Ev.bind (impl_total.ev l (by omega) h0 hs) ?_
  rw [w64 (by omega) (by omega)]
  refine Ev.pos (by omega) (Ev.pos (by omega) ?_)
  simp only [Option.bind_some]
  refine Ev.pos (by simp <;> omega) ?_
  have h := impl_ways.ev_l (l.sum.toNat + 1) (by omega) l [] (by simpa using hl) h1 (by simp)
  refine Ev.congr (fun k => ?_) h
  congr 1
  have e : List.replicate (l.sum + 1).toNat (0 : Int) = tab (l.sum.toNat + 1) (fun _ => 0) := by
    rw [show (l.sum + 1).toNat = l.sum.toNat + 1 by omega]
    apply List.ext_getElem
    · simp [tab]
    · intro i h1 h2; simp [tab]
  rw [e, tab_set _ _ _ _ (by omega)]
  apply tab_congr
  intro j hj0 hj1
  simp [cnt]
theorem spec_piWays.ev_in {R : List Int} (N : Nat) (hN : N ≤ 1000000001) (p : Int) (hp : 1 ≤ p) (f : Int → Int) (hf : ∀ j, 0 ≤ f j ∧ f j ≤ 2000000000) (L : List Int) (n i : Int) (next : Ev (fun k => spec_piWays.l0 k (tab N fun j => if p ≤ j then f j + f (j - p) else f j) L n (wrap64 (i + 1))) R) :
    ∀ (d : Nat) (s : Int), s < N → -1 ≤ s → s + 1 = d → Ev (fun k => spec_piWays.l1 k (tab N fun j => if p ≤ j ∧ s < j then f j + f (j - p) else f j) p s L n i) R := by
  intro d
  induction d with
  | zero =>
    intro s h1 h2 h3
    refine Ev.step (fun k => ?_) next
    rw [spec_piWays.l1, if_neg (by omega)]
    congr 1
    apply tab_congr
    intro j hj0 hj1
    by_cases c : p ≤ j
    · rw [if_pos ⟨c, by omega⟩, if_pos c]
    · rw [if_neg (by omega), if_neg c]
  | succ d ih =>
    intro s h1 h2 h3
    by_cases c : s ≥ p
    · have h := ih (s - 1) (by omega) (by omega) (by omega)
      refine Ev.step (fun k => ?_) h
      rw [spec_piWays.l1, if_pos c, if_pos (by omega), if_pos (by rw [tab_length]; omega), w64 (n := s - p) (by omega) (by omega), if_pos (by omega), if_pos (by rw [tab_length]; omega), rd_tab _ _ _ (by omega) (by omega), rd_tab _ _ _ (by omega) (by omega)]
      have f1 := hf s
      have f2 := hf (s - p)
      rw [if_neg (by omega), if_neg (by omega), w64 (by omega) (by omega), w64 (n := s - 1) (by omega) (by omega), tab_set _ _ _ _ (by omega)]
      congr 1
      apply tab_congr
      intro j hj0 hj1
      by_cases e : j = s
      · subst e; rw [if_pos rfl, if_pos ⟨by omega, by omega⟩]
      · rw [if_neg e]
        by_cases e2 : p ≤ j ∧ s < j
        · rw [if_pos e2, if_pos ⟨by omega, by omega⟩]
        · rw [if_neg e2, if_neg (by omega)]
    · refine Ev.step (fun k => ?_) next
      rw [spec_piWays.l1, if_neg c]
      congr 1
      apply tab_congr
      intro j hj0 hj1
      by_cases c : p ≤ j
      · rw [if_pos ⟨c, by omega⟩, if_pos c]
      · rw [if_neg (by omega), if_neg c]
theorem spec_piWays.ev_l (N : Nat) (hN : N ≤ 1000000001) (s : List Int) : ∀ (q : List Int), q.length + s.length ≤ 20 → (∀ x ∈ s, 1 ≤ x) → (∀ x ∈ q, 1 ≤ x) → Ev (fun k => spec_piWays.l0 k (tab N (cnt q)) (q ++ s) ((q ++ s).length : Int) (q.length : Int)) (tab N (cnt (q ++ s))) := by
  induction s with
  | nil =>
    intro q hq hs hq1
    refine Ev.step (f := fun _ => some (tab N (cnt q))) (fun k => ?_) (Ev.val (by simp))
    rw [spec_piWays.l0, if_neg (by simp)]
  | cons x s ih =>
    intro q hq hs hq1
    simp only [List.length_cons] at hq
    have h := ih (q ++ [x]) (by simp <;> omega) (fun y hy => hs y (by simp [hy])) (fun y hy => (List.mem_append.1 hy).elim (hq1 y) (fun h => by simp at h; rw [h]; exact hs x (by simp)))
    have hx := hs x (by simp)
    have hcn : ∀ j, cnt q j ≤ 1048576 := fun j => Int.le_trans (cnt_le q j) (pow_le_20 (by omega))
    have e : (tab N fun j => if x ≤ j then cnt q j + cnt q (j - x) else cnt q j) = tab N (cnt (q ++ [x])) := by
      apply tab_congr
      intro j hj0 hj1
      rw [cnt_snoc]
      by_cases c : x ≤ j
      · rw [if_pos c]
      · rw [if_neg c, cnt_neg q (fun y hy => by have := hq1 y hy; omega) (j - x) (by omega)]; omega
    have hin := spec_piWays.ev_in (R := tab N (cnt (q ++ x :: s))) N hN x hx (cnt q) (fun j => ⟨cnt_nonneg q j, by have := hcn j; omega⟩) (q ++ x :: s) ((q ++ x :: s).length : Int) (q.length : Int) (by
      rw [e, w64 (by omega) (by omega)]
      have := h
      simpa using this) N ((N : Int) - 1) (by omega) (by omega) (by omega)
    refine Ev.step (fun k => ?_) hin
    rw [spec_piWays.l0, if_pos (by simp <;> omega), if_pos (by omega), if_pos (by simp <;> omega), rd_app, tab_length, w64 (n := (N : Int) - 1) (by omega) (by omega)]
    congr 1
    apply tab_congr
    intro j hj0 hj1
    rw [if_neg (by omega)]
theorem spec_piWays.ev (l : List Int) (hl : l.length ≤ 20) (h1 : ∀ x ∈ l, 1 ≤ x) (hs : l.sum ≤ 1000000000) : Ev (fun k => spec_piWays.f k l) (tab (l.sum.toNat + 1) (cnt l)) := by
  have h0 : ∀ x ∈ l, 0 ≤ x := fun x hx => by have := h1 x hx; omega
  have hn := sum_nonneg l h0
  unfold spec_piWays.f
  refine Ev.bind (spec_piSum.ev l (by omega) h0 hs) ?_
  rw [w64 (by omega) (by omega)]
  refine Ev.pos (by omega) (Ev.pos (by omega) ?_)
  simp only [Option.bind_some]
  refine Ev.pos (by simp <;> omega) ?_
  have h := spec_piWays.ev_l (l.sum.toNat + 1) (by omega) l [] (by simpa using hl) h1 (by simp)
  refine Ev.congr (fun k => ?_) h
  congr 1
  have e : List.replicate (l.sum + 1).toNat (0 : Int) = tab (l.sum.toNat + 1) (fun _ => 0) := by
    rw [show (l.sum + 1).toNat = l.sum.toNat + 1 by omega]
    apply List.ext_getElem
    · simp [tab]
    · intro i h1 h2; simp [tab]
  rw [e, tab_set _ _ _ _ (by omega)]
  apply tab_congr
  intro j hj0 hj1
  simp [cnt]
theorem spec_piMake.ev (l : List Int) (a : Int) (hl : l.length ≤ 20) (h1 : ∀ x ∈ l, 1 ≤ x) (hs : l.sum ≤ 1000000000) (ha : 0 ≤ a) : Ev (fun k => spec_piMake.f k l a) (cnt l a) := by
  have h0 : ∀ x ∈ l, 0 ≤ x := fun x hx => by have := h1 x hx; omega
  have hn := sum_nonneg l h0
  unfold spec_piMake.f
  refine Ev.bind (spec_piWays.ev l hl h1 hs) (Ev.ite (fun c => Ev.val ?_) (fun c => Ev.pos ha (Ev.pos (by omega) (Ev.val ?_))))
  · rw [tab_length] at c; rw [cnt_above l h0 a (by omega)]
  · rw [tab_length] at c; rw [rd_tab _ _ _ ha (by omega)]
theorem impl_waysOf.ev (l : List Int) (a : Int) (hl : l.length ≤ 20) (h1 : ∀ x ∈ l, 1 ≤ x) (hs : l.sum ≤ 1000000000) (ha : 0 ≤ a) : Ev (fun k => impl_waysOf.f k l a) (cnt l a) := by
  have h0 : ∀ x ∈ l, 0 ≤ x := fun x hx => by have := h1 x hx; omega
  have hn := sum_nonneg l h0
  unfold impl_waysOf.f
  refine Ev.bind (impl_total.ev l (by omega) h0 hs) (Ev.ite (fun c => Ev.val ?_) (fun c => Ev.bind (impl_ways.ev l hl h1 hs) (Ev.pos ha (Ev.pos ?_ (Ev.val ?_)))))
  · rw [cnt_above l h0 a (by omega)]
  · rw [tab_length]; omega
  · rw [rd_tab _ _ _ ha (by omega)]
/-- What a clue of a kind tells of pieces. -/
def pzV (kind a : Int) (l : List Int) : Int :=
  if kind = 0 then (l.length : Int) else if kind = 1 then l.sum else if kind = 2 then (if cnt l a < 1 then cnt l a else 1) else if kind = 3 then runL l 0 else if kind = 4 then cnt l a else (l.count a : Int)
theorem spec_pzValue.ev_l (a : Int) (s : List Int) : ∀ (p : List Int) (c : Int), p.length + s.length ≤ 1000000000 → 0 ≤ c → c + s.length ≤ 1000000000 → Ev (fun k => spec_pzValue.l0 k a c (p ++ s) ((p ++ s).length : Int) (p.length : Int)) (c + (s.count a : Int)) := by
  induction s with
  | nil =>
    intro p c hp h0 hs
    refine Ev.step (f := fun _ => some c) (fun k => ?_) (Ev.val (by simp))
    rw [spec_pzValue.l0, if_neg (by simp)]
  | cons x s ih =>
    intro p c hp h0 hs
    simp only [List.length_cons] at hp hs
    by_cases e : x = a
    · have h := ih (p ++ [x]) (c + 1) (by simp <;> omega) (by omega) (by omega)
      refine Ev.step (f := fun k => spec_pzValue.l0 k a (c + 1) ((p ++ [x]) ++ s) (((p ++ [x]) ++ s).length : Int) ((p ++ [x]).length : Int)) (fun k => ?_) (Ev.eq h (by rw [List.count_cons, if_pos (by simpa using e)]; omega))
      rw [spec_pzValue.l0, if_pos (by simp <;> omega), if_pos (by omega), if_pos (by simp <;> omega), rd_app, if_pos e, w64 (n := c + 1) (by omega) (by omega), w64 (by omega) (by omega)]
      simp
    · have h := ih (p ++ [x]) c (by simp <;> omega) (by omega) (by omega)
      refine Ev.step (f := fun k => spec_pzValue.l0 k a c ((p ++ [x]) ++ s) (((p ++ [x]) ++ s).length : Int) ((p ++ [x]).length : Int)) (fun k => ?_) (Ev.eq h (by rw [List.count_cons, if_neg (by simpa using e)]; omega))
      rw [spec_pzValue.l0, if_pos (by simp <;> omega), if_pos (by omega), if_pos (by simp <;> omega), rd_app, if_neg e, w64 (by omega) (by omega)]
      simp
theorem spec_pzValue.ev (kind a : Int) (l : List Int) (hl : l.length ≤ 20) (h1 : ∀ x ∈ l, 1 ≤ x) (hs : l.sum ≤ 1000000000) (ha : 0 ≤ a ∨ ¬ (kind = 2 ∨ kind = 4)) : Ev (fun k => spec_pzValue.f k kind a l) (pzV kind a l) := by
  have h0 : ∀ x ∈ l, 0 ≤ x := fun x hx => by have := h1 x hx; omega
  unfold spec_pzValue.f pzV
  by_cases c0 : kind = 0
  · rw [if_pos c0]; exact Ev.pos c0 (Ev.val rfl)
  rw [if_neg c0]; refine Ev.neg c0 ?_
  by_cases c1 : kind = 1
  · rw [if_pos c1]; exact Ev.pos c1 (Ev.bind (spec_piSum.ev l (by omega) h0 hs) (Ev.val rfl))
  rw [if_neg c1]; refine Ev.neg c1 ?_
  by_cases c2 : kind = 2
  · rw [if_pos c2]; refine Ev.pos c2 (Ev.bind (spec_piMake.ev l a hl h1 hs (by omega)) (Ev.bindc (x := if cnt l a < 1 then cnt l a else 1) ?_ (Ev.val rfl)))
    unfold spec_l1Least.f
    by_cases c : 1 < cnt l a
    · rw [if_pos c, if_neg (by omega)]
    · rw [if_neg c]
      by_cases d : cnt l a < 1
      · rw [if_pos d]
      · rw [if_neg d]; congr 1; omega
  rw [if_neg c2]; refine Ev.neg c2 ?_
  by_cases c3 : kind = 3
  · rw [if_pos c3]; exact Ev.pos c3 (Ev.bind (spec_piRun.ev l (by omega) h0 hs) (Ev.val rfl))
  rw [if_neg c3]; refine Ev.neg c3 ?_
  by_cases c4 : kind = 4
  · rw [if_pos c4]; exact Ev.pos c4 (Ev.bind (spec_piMake.ev l a hl h1 hs (by omega)) (Ev.val rfl))
  rw [if_neg c4]; refine Ev.neg c4 ?_
  have h := spec_pzValue.ev_l a l [] 0 (by simp; omega) (by omega) (by omega)
  exact Ev.eq h (by omega)
def pzFitsB (kind a b : Int) (l : List Int) : Bool := if kind < 2 ∨ kind = 3 then pzV kind 0 l == a else pzV kind a l == b
theorem spec_pzAlone.val (k : Int) : spec_pzAlone.f k = some (decide (k < 2 ∨ k = 3)) := by
  unfold spec_pzAlone.f
  by_cases c : k < 2
  · rw [if_pos c]; simp [c]
  · rw [if_neg c]; simp only [c, false_or]; rfl
theorem spec_pzFits.ev (kind a b : Int) (l : List Int) (hl : l.length ≤ 20) (h1 : ∀ x ∈ l, 1 ≤ x) (hs : l.sum ≤ 1000000000) (ha : 0 ≤ a ∨ ¬ (kind = 2 ∨ kind = 4)) : Ev (fun k => spec_pzFits.f k kind a b l) (pzFitsB kind a b l) := by
  unfold spec_pzFits.f pzFitsB
  refine Ev.bindc (spec_pzAlone.val kind) (Ev.ite (fun c => ?_) (fun c => ?_))
  · rw [if_pos (by simpa using c)]
    exact Ev.bind (spec_pzValue.ev kind 0 l hl h1 hs (by omega)) (Ev.val rfl)
  · rw [if_neg (by simpa using c)]
    exact Ev.bind (spec_pzValue.ev kind a l hl h1 hs ha) (Ev.val rfl)
def clueL (kind a : Int) (l : List Int) : Int × Int × Int :=
  if kind = 0 then (0, (l.length : Int), 0) else if kind = 1 then (1, l.sum, 0) else if kind = 2 then (2, a, if cnt l a < 1 then cnt l a else 1) else if kind = 3 then (3, runL l 0, 0) else if kind = 4 then (4, a, cnt l a) else (5, a, (l.count a : Int))
theorem impl_clueOf.ev_l (a : Int) (s : List Int) : ∀ (p : List Int) (c : Int), p.length + s.length ≤ 1000000000 → 0 ≤ c → c + s.length ≤ 1000000000 → Ev (fun k => impl_clueOf.l0 k a c (p ++ s) ((p ++ s).length : Int) (p.length : Int)) (5, a, c + (s.count a : Int)) := by
  induction s with
  | nil =>
    intro p c hp h0 hs
    refine Ev.step (f := fun _ => some (5, a, c)) (fun k => ?_) (Ev.val (by simp))
    rw [impl_clueOf.l0, if_neg (by simp)]
  | cons x s ih =>
    intro p c hp h0 hs
    simp only [List.length_cons] at hp hs
    by_cases e : x = a
    · have h := ih (p ++ [x]) (c + 1) (by simp <;> omega) (by omega) (by omega)
      refine Ev.step (f := fun k => impl_clueOf.l0 k a (c + 1) ((p ++ [x]) ++ s) (((p ++ [x]) ++ s).length : Int) ((p ++ [x]).length : Int)) (fun k => ?_) (Ev.eq h (by rw [List.count_cons, if_pos (by simpa using e)]; congr 2; omega))
      rw [impl_clueOf.l0, if_pos (by simp <;> omega), if_pos (by omega), if_pos (by simp <;> omega), rd_app, if_pos e, w64 (n := c + 1) (by omega) (by omega), w64 (by omega) (by omega)]
      simp
    · have h := ih (p ++ [x]) c (by simp <;> omega) (by omega) (by omega)
      refine Ev.step (f := fun k => impl_clueOf.l0 k a c ((p ++ [x]) ++ s) (((p ++ [x]) ++ s).length : Int) ((p ++ [x]).length : Int)) (fun k => ?_) (Ev.eq h (by rw [List.count_cons, if_neg (by simpa using e)]; simp))
      rw [impl_clueOf.l0, if_pos (by simp <;> omega), if_pos (by omega), if_pos (by simp <;> omega), rd_app, if_neg e, w64 (by omega) (by omega)]
      simp
theorem mn_one (x : Int) : mn 1 x = if x < 1 then x else 1 := by unfold mn; rfl
theorem impl_clueOf.ev (kind a : Int) (l : List Int) (hl : l.length ≤ 20) (h1 : ∀ x ∈ l, 1 ≤ x) (hs : l.sum ≤ 1000000000) (ha : 0 ≤ a ∨ ¬ (kind = 2 ∨ kind = 4)) : Ev (fun k => impl_clueOf.f k kind a l) (clueL kind a l) := by
  have h0 : ∀ x ∈ l, 0 ≤ x := fun x hx => by have := h1 x hx; omega
  unfold impl_clueOf.f clueL
  by_cases c0 : kind = 0
  · rw [if_pos c0]; exact Ev.pos c0 (Ev.val rfl)
  rw [if_neg c0]; refine Ev.neg c0 ?_
  by_cases c1 : kind = 1
  · rw [if_pos c1]; exact Ev.pos c1 (Ev.bind (impl_total.ev l (by omega) h0 hs) (Ev.val rfl))
  rw [if_neg c1]; refine Ev.neg c1 ?_
  by_cases c2 : kind = 2
  · rw [if_pos c2]; exact Ev.pos c2 (Ev.bind (impl_waysOf.ev l a hl h1 hs (by omega)) (Ev.val (by rw [mn_one])))
  rw [if_neg c2]; refine Ev.neg c2 ?_
  by_cases c3 : kind = 3
  · rw [if_pos c3]; exact Ev.pos c3 (Ev.bind (impl_run.ev l (by omega) h0 hs) (Ev.val rfl))
  rw [if_neg c3]; refine Ev.neg c3 ?_
  by_cases c4 : kind = 4
  · rw [if_pos c4]; exact Ev.pos c4 (Ev.bind (impl_waysOf.ev l a hl h1 hs (by omega)) (Ev.val rfl))
  rw [if_neg c4]; refine Ev.neg c4 ?_
  have h := impl_clueOf.ev_l a l [] 0 (by simp; omega) (by omega) (by omega)
  exact Ev.eq h (by congr 2; omega)
/-- For a clue that is one, both ways to ask whether it fits agree. -/
theorem clueL_fits (kind a b : Int) (l : List Int) (h : clueB kind a b = true) : ((clueL kind a l).1 == kind && ((clueL kind a l).2.1 == a && ((clueL kind a l).2.2 == b))) = pzFitsB kind a b l := by
  unfold clueB at h
  unfold clueL pzFitsB pzV
  by_cases c0 : kind = 0
  · subst c0; simp at h ⊢; rw [h.2]; simp
  by_cases c1 : kind = 1
  · subst c1; simp at h ⊢; rw [h.2]; simp
  by_cases c2 : kind = 2
  · subst c2; simp
  by_cases c3 : kind = 3
  · subst c3; simp at h ⊢; rw [h.2]; simp
  by_cases c4 : kind = 4
  · subst c4; simp
  by_cases c5 : kind = 5
  · subst c5; simp
  rw [if_neg c0, if_neg c1, if_neg c3, if_neg c2, if_neg c4, if_neg c5] at h
  cases h
theorem clueB_a {kind a b : Int} (h : clueB kind a b = true) : 0 ≤ a ∨ ¬ (kind = 2 ∨ kind = 4) := by
  unfold clueB at h
  by_cases c2 : kind = 2
  · subst c2; simp [inB] at h; omega
  by_cases c4 : kind = 4
  · subst c4; simp [inB] at h; omega
  omega
theorem hidL_facts : ∀ (d : Nat) (l : List Int) (p : Int), 1 ≤ p → (∀ x ∈ l, 1 ≤ x ∧ x ≤ 6) → ∀ m ∈ hidL d l p, m.length ≤ l.length + d ∧ ∀ x ∈ m, 1 ≤ x ∧ x ≤ 6
  | 0, l, p, hp, hl, m, hm => by
    have e : m = l := List.mem_singleton.1 hm
    rw [e]; exact ⟨Nat.le_refl _, hl⟩
  | d + 1, l, p, hp, hl, m, hm => by
    rcases List.mem_cons.1 hm with e | hm
    · rw [e]; exact ⟨Nat.le_add_right _ _, hl⟩
    · obtain ⟨i, hi, hm⟩ := List.mem_flatMap.1 hm
      have hi' := List.mem_range.1 hi
      have h := hidL_facts d (l ++ [p + (i : Int)]) (p + (i : Int)) (by omega) (by
        intro x hx
        rcases List.mem_append.1 hx with hx | hx
        · exact hl x hx
        · rw [List.mem_singleton.1 hx]; omega) m hm
      refine ⟨?_, h.2⟩
      have := h.1
      simp only [List.length_append, List.length_singleton] at this
      omega
theorem sum_le6 : ∀ l : List Int, (∀ x ∈ l, 1 ≤ x ∧ x ≤ 6) → l.sum ≤ 6 * (l.length : Int)
  | [], _ => by simp
  | x :: s, h => by
    have h1 := sum_le6 s (fun y hy => h y (List.mem_cons_of_mem _ hy))
    have h2 := h x List.mem_cons_self
    simp only [List.sum_cons, List.length_cons]
    omega
theorem hid_facts {l : List Int} (h : l ∈ hidL 4 [] 1) : l.length ≤ 20 ∧ (∀ x ∈ l, 1 ≤ x) ∧ l.sum ≤ 1000000000 := by
  have f := hidL_facts 4 [] 1 (by omega) (fun x hx => by cases hx) l h
  have s := sum_le6 l f.2
  have := f.1
  simp only [List.length_nil] at this
  exact ⟨by omega, fun x hx => (f.2 x hx).1, by omega⟩
theorem idxO_evM {α : Type} (p : Nat → α → Option Bool) (P : α → Bool) : ∀ (l : List α) (i : Int), (∀ x ∈ l, Ev (fun k => p k x) (P x)) → 0 ≤ i → ∃ r, Ev (fun k => idxO (p k) l i) r ∧ decide (0 ≤ r) = l.any P
  | [], i, _, _ => ⟨-1, Ev.val rfl, rfl⟩
  | x :: s, i, hp, hi => by
    obtain ⟨r, h1, h2⟩ := idxO_evM p P s (i + 1) (fun y hy => hp y (List.mem_cons_of_mem _ hy)) (by omega)
    have hx := hp x List.mem_cons_self
    cases e : P x with
    | true =>
      rw [e] at hx
      exact ⟨i, Ev.bind hx (Ev.pos rfl (Ev.val rfl)), by rw [List.any_cons, e, decide_eq_true hi]; rfl⟩
    | false =>
      rw [e] at hx
      exact ⟨r, Ev.bind hx (Ev.neg (by decide) h1), by rw [List.any_cons, e, h2]; rfl⟩
/-- One number of rounds for all of a list. -/
theorem ev_all {α β : Type} (g : Nat → α → Option β) (Q : α → β → Prop) : ∀ (L : List α), (∀ l ∈ L, ∃ r, Ev (fun k => g k l) r ∧ Q l r) → ∃ K, ∀ k, K ≤ k → ∀ l ∈ L, ∃ r, g k l = some r ∧ Q l r
  | [], _ => ⟨0, fun k _ l hl => by cases hl⟩
  | x :: s, h => by
    obtain ⟨K1, h1⟩ := ev_all g Q s (fun l hl => h l (List.mem_cons_of_mem _ hl))
    obtain ⟨r, ⟨K2, h2⟩, hq⟩ := h x List.mem_cons_self
    refine ⟨K1 + K2, fun k hk l hl => ?_⟩
    rcases List.mem_cons.1 hl with e | hl
    · rw [e]; exact ⟨r, h2 k (by omega), hq⟩
    · exact h1 k (by omega) l hl
/-- Hidden pieces that fit all clues. -/
def fitsAll (cs : List S76) (l : List Int) : Bool := cs.all fun c => pzFitsB c.f0 c.f1 c.f2 l
def solB (cs : List S76) : List (List Int) := (hidL 4 [] 1).filter (fitsAll cs)
theorem badS_ev (cs : List S76) (hc : cs.all (fun c => clueB c.f0 c.f1 c.f2) = true) (l : List Int) (hl : l ∈ hidL 4 [] 1) : ∃ r, Ev (fun k => badS k cs l) r ∧ (!(decide (0 ≤ r))) = fitsAll cs l := by
  obtain ⟨h1, h2, h3⟩ := hid_facts hl
  obtain ⟨r, hr, e⟩ := idxO_evM (fun k (x : S76) => (spec_pzFits.f k x.f0 x.f1 x.f2 l).bind fun t => some (!t)) (fun x => !pzFitsB x.f0 x.f1 x.f2 l) cs 0 (fun x hx => Ev.bind (spec_pzFits.ev x.f0 x.f1 x.f2 l h1 h2 h3 (clueB_a (List.all_eq_true.1 hc x hx))) (Ev.val rfl)) (by omega)
  refine ⟨r, hr, ?_⟩
  rw [e]
  unfold fitsAll
  rw [List.all_eq_not_any_not]
theorem badO_ev (cs : List S76) (hc : cs.all (fun c => clueB c.f0 c.f1 c.f2) = true) (l : List Int) (hl : l ∈ hidL 4 [] 1) : ∃ r, Ev (fun k => badO k cs l) r ∧ (!(decide (0 ≤ r))) = fitsAll cs l := by
  obtain ⟨h1, h2, h3⟩ := hid_facts hl
  obtain ⟨r, hr, e⟩ := idxO_evM (fun k (x : S76) => (impl_clueOf.f k x.f0 x.f1 l).bind fun r => some (!(r.1 == x.f0 && (r.2.1 == x.f1 && r.2.2 == x.f2)))) (fun x => !pzFitsB x.f0 x.f1 x.f2 l) cs 0 (fun x hx => Ev.bind (impl_clueOf.ev x.f0 x.f1 l h1 h2 h3 (clueB_a (List.all_eq_true.1 hc x hx))) (Ev.val (by rw [clueL_fits _ _ _ _ (List.all_eq_true.1 hc x hx)]))) (by omega)
  refine ⟨r, hr, ?_⟩
  rw [e]
  unfold fitsAll
  rw [List.all_eq_not_any_not]
theorem spec_pzAll.ev (cs : List S76) (hc : cs.all (fun c => clueB c.f0 c.f1 c.f2) = true) : Ev (fun k => spec_pzAll.f k cs) (solB cs) := by
  obtain ⟨K, h⟩ := ev_all (fun k l => badS k cs l) (fun l r => (!(decide (0 ≤ r))) = fitsAll cs l) (hidL 4 [] 1) (fun l hl => badS_ev cs hc l hl)
  refine ⟨K, fun k hk => ?_⟩
  show spec_pzAll.f k cs = _
  unfold spec_pzAll.f solB
  rw [if_pos]
  · congr 1
    exact List.filter_congr (fun l hl => by
      obtain ⟨r, hr, e⟩ := h k hk l hl
      have hr' : badS k cs l = some r := hr
      unfold fitS
      rw [hr']; exact e)
  · exact List.all_eq_true.2 (fun l hl => by
      obtain ⟨r, hr, e⟩ := h k hk l hl
      have hr' : badS k cs l = some r := hr
      rw [hr']; rfl)
theorem impl_solve.ev (cs : List S76) (hc : cs.all (fun c => clueB c.f0 c.f1 c.f2) = true) : Ev (fun k => impl_solve.f k cs) (solB cs) := by
  obtain ⟨K, h⟩ := ev_all (fun k l => badO k cs l) (fun l r => (!(decide (0 ≤ r))) = fitsAll cs l) (hidL 4 [] 1) (fun l hl => badO_ev cs hc l hl)
  refine ⟨K, fun k hk => ?_⟩
  show impl_solve.f k cs = _
  unfold impl_solve.f solB
  rw [if_pos]
  · congr 1
    exact List.filter_congr (fun l hl => by
      obtain ⟨r, hr, e⟩ := h k hk l hl
      have hr' : badO k cs l = some r := hr
      rw [hr']; exact e)
  · exact List.all_eq_true.2 (fun l hl => by
      obtain ⟨r, hr, e⟩ := h k hk l hl
      have hr' : badO k cs l = some r := hr
      rw [hr']; rfl)
theorem puzzle_all {cs : List S76} (h : puzzleB cs = true) : cs.all (fun c => clueB c.f0 c.f1 c.f2) = true := by unfold puzzleB at h; simp only [Bool.and_eq_true] at h; exact h.2
theorem puzzle_len {cs : List S76} (h : puzzleB cs = true) : cs.length ≤ 6 := by unfold puzzleB at h; simp only [Bool.and_eq_true, decide_eq_true_eq] at h; exact h.1
theorem impl_Solutions.ev (cs : List S76) : Ev (fun k => impl_Solutions.f k cs) (if puzzleB cs = true then (solB cs, true) else ([], false)) := by
  unfold impl_Solutions.f
  refine Ev.bind (impl_IsPuzzle.ev cs) (Ev.ite (fun h => ?_) (fun h => ?_))
  · exact Ev.bind (impl_solve.ev cs (puzzle_all h)) (Ev.val (by rw [if_pos h]))
  · exact Ev.val (by rw [if_neg h])
/-- The integers in order. -/
def sortL (l : List Int) : List Int := l.mergeSort fun x y => decide (x ≤ y)
theorem perm_sorted_eq : ∀ (a b : List Int), a.Perm b → a.Pairwise (fun x y => x ≤ y) → b.Pairwise (fun x y => x ≤ y) → a = b
  | [], b, h, _, _ => (List.nil_perm.1 h).symm
  | x :: a, [], h, _, _ => absurd h.length_eq (by simp)
  | x :: a, y :: b, h, ha, hb => by
    rw [List.pairwise_cons] at ha hb
    have hy : y ∈ x :: a := h.symm.subset (by simp)
    have hx : x ∈ y :: b := h.subset (by simp)
    have e : x = y := by
      rcases List.mem_cons.1 hy with e1 | e1
      · exact e1.symm
      · rcases List.mem_cons.1 hx with e2 | e2
        · exact e2
        · have := ha.1 y e1; have := hb.1 x e2; omega
    subst e
    rw [perm_sorted_eq a b (List.Perm.cons_inv h) ha.2 hb.2]
theorem sortL_perm (l : List Int) : (sortL l).Perm l := List.mergeSort_perm l _
theorem sortL_sorted (l : List Int) : (sortL l).Pairwise (fun x y => x ≤ y) := by
  have h := List.pairwise_mergeSort (le := fun x y : Int => decide (x ≤ y)) (fun a b c h1 h2 => by simp at *; omega) (fun a b => by simp; omega) l
  exact h.imp (fun h => of_decide_eq_true h)
theorem sortL_length (l : List Int) : (sortL l).length = l.length := (sortL_perm l).length_eq
/-- The pieces along a chain. -/
def partsL (links : Int) : List Int → Int → List Int
  | [], n => if n < links then [links - n] else []
  | c :: s, n => if n < c then (c - n) :: 1 :: partsL links s (c + 1) else 1 :: partsL links s (c + 1)
theorem partsL_length (links : Int) : ∀ (s : List Int) (n : Int), (partsL links s n).length ≤ 2 * s.length + 1
  | [], n => by rw [partsL]; split <;> simp
  | c :: s, n => by
    have := partsL_length links s (c + 1)
    rw [partsL]
    split <;> simp <;> omega
theorem partsL_pos (links : Int) (hl : 1 ≤ links) (s : List Int) : 0 < (partsL links s 0).length := by
  cases s with
  | nil => rw [partsL, if_pos (by omega)]; simp
  | cons c s => rw [partsL]; split <;> simp
theorem partsL_ge (links : Int) : ∀ (s : List Int) (n : Int), (∀ x ∈ partsL links s n, 1 ≤ x)
  | [], n, x, hx => by
    rw [partsL] at hx
    split at hx
    · simp at hx; omega
    · simp at hx
  | c :: s, n, x, hx => by
    have := partsL_ge links s (c + 1)
    rw [partsL] at hx
    split at hx
    · simp at hx
      rcases hx with h | h | h
      · omega
      · omega
      · exact this x h
    · simp at hx
      rcases hx with h | h
      · omega
      · exact this x h
theorem partsL_le (links : Int) (hl : links ≤ 1000) : ∀ (s : List Int) (n : Int), 0 ≤ n → (∀ x ∈ s, 0 ≤ x ∧ x ≤ 1000) → (∀ x ∈ partsL links s n, x ≤ 1000)
  | [], n, hn, hs, x, hx => by
    rw [partsL] at hx
    split at hx
    · simp at hx; omega
    · simp at hx
  | c :: s, n, hn, hs, x, hx => by
    have hc := hs c (by simp)
    have := partsL_le links hl s (c + 1) (by omega) (fun y hy => hs y (by simp [hy]))
    rw [partsL] at hx
    split at hx
    · simp at hx
      rcases hx with h | h | h
      · omega
      · omega
      · exact this x h
    · simp at hx
      rcases hx with h | h
      · omega
      · exact this x h
theorem spec_l1Own.val (l : List Int) (hl : l.length ≤ 1000000) : spec_l1Own.f l = some l := by
  unfold spec_l1Own.f
  rw [Option.bind_some, if_pos (by simp <;> omega)]; rfl
def cutsB (a : Int) (l : List Int) : Bool := inB a 1 1000 && (decide (l.length ≤ 9) && ((l.all fun x => inB x 0 (a - 1)) && risesB l))
theorem cutsB_in {a : Int} {l : List Int} (h : cutsB a l = true) : 1 ≤ a ∧ a ≤ 1000 ∧ l.length ≤ 9 ∧ ∀ x ∈ l, 0 ≤ x ∧ x ≤ a - 1 := by
  unfold cutsB inB at h
  simp at h
  exact ⟨h.1.1, h.1.2, h.2.1, h.2.2.1⟩
theorem cutsB_in' {a : Int} {l : List Int} (h : cutsB a l = true) : ∀ x ∈ l, 0 ≤ x ∧ x ≤ 1000 := fun x hx => by
  obtain ⟨_, h2, _, h4⟩ := cutsB_in h
  have := h4 x hx; omega
def markS : List (List Int) → Int → List (List Int)
  | [], _ => []
  | l :: s, a => numsFrom l.length a :: markS s (a + l.length)
def tot : List (List Int) → Int
  | [] => 0
  | l :: s => l.length + tot s
theorem markS_length : ∀ (s : List (List Int)) (a : Int), (markS s a).length = s.length
  | [], _ => rfl
  | l :: s, a => by simp [markS, markS_length s]
theorem tot_nonneg : ∀ s : List (List Int), 0 ≤ tot s
  | [] => by simp [tot]
  | l :: s => by have := tot_nonneg s; rw [tot]; omega
theorem tot_le : ∀ s : List (List Int), (∀ l ∈ s, l.length ≤ 1000000) → tot s ≤ 1000000 * (s.length : Int)
  | [], _ => by simp [tot]
  | l :: s, h => by
    have h1 := h l (by simp)
    have h2 := tot_le s (fun x hx => h x (by simp [hx]))
    rw [tot, List.length_cons]; omega
theorem setL (p : List (List Int)) (x y : List Int) (s : List (List Int)) : (p ++ x :: s).set (p.length : Int).toNat y = p ++ y :: s := by
  rw [Int.toNat_natCast, List.set_append_right _ _ (Nat.le_refl _)]; simp
theorem laws_markIntS.evA (l : List Int) (a : Int) (hl : l.length ≤ 1000000) (h0 : 0 ≤ a) (h1 : a ≤ 2000000000000) : Ev (fun k => laws_markIntS.f k l a) (a + l.length, numsFrom l.length a) := by
  unfold laws_markIntS.f
  exact laws_markIntS.ev_l l [] a (by simp; omega) h0 (by omega)
theorem laws_heldIntS.evA (n : Nat) (a : Int) (hn : n ≤ 1000000) (h0 : 0 ≤ a) (h1 : a ≤ 2000000000000) : Ev (fun k => laws_heldIntS.f k (numsFrom n a) a) (a + n) := by
  unfold laws_heldIntS.f
  exact laws_heldIntS.ev_l n [] a (by simp; omega) h0 (by omega)
theorem laws_markIntSS.ev_l (s : List (List Int)) : ∀ (p : List (List Int)) (a : Int), (∀ l ∈ s, l.length ≤ 1000000) → p.length + s.length ≤ 1000000 → 0 ≤ a → a + 1000000 * s.length ≤ 1500000000000 → Ev (fun k => laws_markIntSS.l0 k (p ++ s) a (p.length : Int)) (a + tot s, p ++ markS s a) := by
  induction s with
  | nil =>
    intro p a hs hp h0 h1
    refine Ev.step (f := fun _ => some (a, p ++ [])) (fun k => ?_) (Ev.val (by simp [markS, tot]))
    rw [laws_markIntSS.l0, if_neg (by simp)]
  | cons l s ih =>
    intro p a hs hp h0 h1
    simp only [List.length_cons] at hp h1
    have hl := hs l (by simp)
    have h := ih (p ++ [numsFrom l.length a]) (a + l.length) (fun x hx => hs x (by simp [hx])) (by simp; omega) (by omega) (by omega)
    refine Ev.step (f := fun k => (laws_markIntS.f k l a).bind fun r => laws_markIntSS.l0 k ((p ++ l :: s).set (p.length : Int).toNat r.2) r.1 (wrap64 ((p.length : Int) + 1))) (fun k => ?_) (Ev.bind (laws_markIntS.evA l a hl h0 (by omega)) (Ev.eq (r := (a + l.length + tot s, (p ++ [numsFrom l.length a]) ++ markS s (a + l.length))) ?_ ?_))
    · rw [laws_markIntSS.l0, if_pos (by simp <;> omega), if_pos (by omega), show (p ++ l :: s).getD (p.length : Int).toNat [] = l by simp [List.getD_eq_getElem?_getD]]
    · rw [setL, w64 (by omega) (by omega)]
      simpa using h
    · simp [markS, tot]; omega
theorem laws_markIntSS.ev (L : List (List Int)) (hs : ∀ l ∈ L, l.length ≤ 1000000) (hL : L.length ≤ 1000000) : Ev (fun k => laws_markIntSS.f k L 1) ((1 + tot L : Int), markS L 1) := by
  unfold laws_markIntSS.f
  exact laws_markIntSS.ev_l L [] 1 hs (by simpa using hL) (by omega) (by omega)
theorem rdL_app (p : List (List Int)) (x : List Int) (s : List (List Int)) : rd_L3 (p ++ x :: s) (p.length : Int) = x := by simp [rd_L3, List.getD_eq_getElem?_getD]
theorem laws_heldIntSS.ev_l (s : List (List Int)) : ∀ (p : List (List Int)) (a : Int), (∀ l ∈ s, l.length ≤ 1000000) → p.length + s.length ≤ 1000000 → 0 ≤ a → a + 1000000 * s.length ≤ 1500000000000 → Ev (fun k => laws_heldIntSS.l0 k (p ++ markS s a) a (p.length : Int)) (a + tot s) := by
  induction s with
  | nil =>
    intro p a hs hp h0 h1
    refine Ev.step (f := fun _ => some a) (fun k => ?_) (Ev.val (by simp [tot]))
    rw [laws_heldIntSS.l0, if_neg (by simp [markS])]
  | cons l s ih =>
    intro p a hs hp h0 h1
    simp only [List.length_cons] at hp h1
    have hl := hs l (by simp)
    have h := ih (p ++ [numsFrom l.length a]) (a + l.length) (fun x hx => hs x (by simp [hx])) (by simp; omega) (by omega) (by omega)
    have hm := markS_length s (a + l.length)
    refine Ev.step (f := fun k => (laws_heldIntS.f k (numsFrom l.length a) a).bind fun t => if t < 0 then some (-1) else laws_heldIntSS.l0 k (p ++ markS (l :: s) a) t (wrap64 ((p.length : Int) + 1))) (fun k => ?_) (Ev.bind (laws_heldIntS.evA l.length a hl h0 (by omega)) (Ev.neg (by omega) ?_))
    · rw [laws_heldIntSS.l0, if_pos (by simp [markS]; omega), if_pos (by omega), show rd_L3 (p ++ markS (l :: s) a) (p.length : Int) = numsFrom l.length a from rdL_app _ _ _]
    · refine Ev.eq (r := a + l.length + tot s) ?_ (by rw [tot]; omega)
      rw [w64 (by omega) (by omega)]
      simpa [markS] using h
theorem laws_heldIntSS.ev (L : List (List Int)) (hs : ∀ l ∈ L, l.length ≤ 1000000) (hL : L.length ≤ 1000000) : Ev (fun k => laws_heldIntSS.f k (markS L 1) 1) (1 + tot L : Int) := by
  unfold laws_heldIntSS.f
  exact laws_heldIntSS.ev_l L [] 1 hs (by simpa using hL) (by omega) (by omega)
theorem laws_eqIntSS.same_l (s : List (List Int)) : ∀ (p : List (List Int)), (∀ l ∈ s, l.length ≤ 1000000) → p.length + s.length ≤ 9223372036854775806 → Ev (fun k => laws_eqIntSS.l0 k (p ++ s) (p ++ s) (p.length : Int)) true := by
  induction s with
  | nil =>
    intro p hs hp
    refine Ev.step (f := fun _ => some true) (fun k => ?_) (Ev.val rfl)
    rw [laws_eqIntSS.l0, if_neg (by simp)]
  | cons l s ih =>
    intro p hs hp
    simp only [List.length_cons] at hp
    have hl := hs l (by simp)
    have h := ih (p ++ [l]) (fun x hx => hs x (by simp [hx])) (by simp; omega)
    have he := laws_eqIntS.ev l l (by omega)
    rw [decide_eq_true rfl] at he
    refine Ev.step (f := fun k => (laws_eqIntS.f k l l).bind fun t => if t = true then laws_eqIntSS.l0 k (p ++ l :: s) (p ++ l :: s) (wrap64 ((p.length : Int) + 1)) else some false) (fun k => ?_) (Ev.bind he (Ev.pos rfl ?_))
    · rw [laws_eqIntSS.l0, if_pos (by simp <;> omega), if_pos (by omega), if_pos (by simp <;> omega), rdL_app]
    · rw [w64 (by omega) (by omega)]
      simpa using h
theorem laws_eqIntSS.same (L : List (List Int)) (hs : ∀ l ∈ L, l.length ≤ 1000000) (hl : L.length ≤ 9223372036854775806) : Ev (fun k => laws_eqIntSS.f k L L) true :=
  Ev.pos rfl (laws_eqIntSS.same_l L [] hs (by simpa using hl))
def solsB (cs : List S76) : List (List Int) × Bool := if puzzleB cs = true then (solB cs, true) else ([], false)
theorem solsB_in (cs : List S76) : (solsB cs).1.length ≤ 1000000 ∧ ∀ l ∈ (solsB cs).1, l.length ≤ 1000000 := by
  unfold solsB
  split
  · refine ⟨Nat.le_trans (List.length_filter_le _ _) (Nat.le_of_ble_eq_true (by kernel_rfl)), fun l hl => ?_⟩
    have := (hid_facts (List.mem_filter.1 hl).1).1; omega
  · simp
theorem spec_Solutions.ev (cs : List S76) : Ev (fun k => spec_Solutions.f k cs) (solsB cs) := by
  unfold spec_Solutions.f
  refine Ev.bind (spec_pzGood.ev cs) (Ev.ite (fun h => ?_) (fun h => ?_))
  · exact Ev.bind (spec_pzAll.ev cs (puzzle_all h)) (Ev.val (by unfold solsB; rw [if_pos h]))
  · exact Ev.val (by unfold solsB; rw [if_neg h])
theorem FnExactSolutions : laws_FnExactSolutions.Pure := by
  intro l hl
  refine Ev.rounds (g := fun n => laws_FnExactSolutions.f n l) ?_
  unfold laws_FnExactSolutions.f
  refine Ev.bindc (laws_szPuzzle.val l hl) ?_
  by_cases hc : 1048576 < (l.length : Int)
  · exact Ev.pos (by rw [if_pos hc]; omega) (Ev.val rfl)
  refine Ev.neg (by rw [if_neg hc]; omega) ?_
  have h1 := laws_toPuzzle.ev l (by omega)
  have hm : ((l.map clueIn).length : Int) ≤ 1048576 := by simp; omega
  have hR := solsB_in (l.map clueIn)
  have hs := spec_Solutions.ev (l.map clueIn)
  have hi : Ev (fun k => impl_Solutions.f k (l.map clueIn)) (solsB (l.map clueIn)) := impl_Solutions.ev (l.map clueIn)
  generalize (l.map clueIn) = P at *
  generalize solsB P = R at *
  have heP := laws_eqPuzzle.same P (by omega)
  have heR := laws_eqIntSS.same R.1 hR.2 (by omega)
  have ht := tot_nonneg R.1
  refine Ev.bind h1 (Ev.bind hs (Ev.bind hi (Ev.bind heR (Ev.bind heP (Ev.bind (laws_puzzle.mark P (by omega)) (Ev.bind (laws_markIntSS.ev R.1 hR.2 hR.1) (Ev.bind (laws_heldIntSS.ev R.1 hR.2 hR.1) (Ev.pos ?_ (Ev.val rfl)))))))))
  exact ⟨rfl, rfl, rfl, by omega, by omega, rfl⟩
end Go.Proofs.Ytfiikhdkohgmfaa.Pure
