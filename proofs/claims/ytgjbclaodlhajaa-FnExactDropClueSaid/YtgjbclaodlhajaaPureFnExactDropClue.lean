/- For all arguments within the row's reach the law FnExactDropClue answers true.
No further conditions. -/
import Derived.Test.YtgjbclaodlhajaaPFnExactDropCluex0
import Derived.Test.YtgjbclaodlhajaaPFnExactDropCluex1
import Derived.Test.YtgjbclaodlhajaaPFnExactDropCluex2
import Derived.Test.YtgjbclaodlhajaaPFnExactDropCluex3
import Derived.Test.YtgjbclaodlhajaaPFnExactDropCluex4
import Derived.Test.YtgjbclaodlhajaaPFnExactDropCluex5
import Derived.Test.YtgjbclaodlhajaaPFnExactDropCluexs
set_option linter.unusedVariables false
set_option linter.unusedSimpArgs false
namespace Go.Proofs.Ytgjbclaodlhajaa.Pure
open Go.RowKit Go.Proofs.Ytgjbclaodlhajaa.PFnExactDropClue Go.Proofs.YtgjbclaodlhajaaW.PrintWords Go.Proofs.YtgjbclaodlhajaaW.PrintLast Go.Proofs.YtgjbclaodlhajaaW.PrintMore
theorem Ev.pos {α : Type} {c : Prop} [Decidable c] {g f : Nat → Option α} {r : α} (hc : c) (h : Ev g r) : Ev (fun k => if c then g k else f k) r := by
  obtain ⟨K, h⟩ := h
  exact ⟨K, fun k hk => by show (if c then g k else f k) = _; rw [if_pos hc]; exact h k hk⟩
theorem Ev.neg {α : Type} {c : Prop} [Decidable c] {g f : Nat → Option α} {r : α} (hc : ¬ c) (h : Ev f r) : Ev (fun k => if c then g k else f k) r := by
  obtain ⟨K, h⟩ := h
  exact ⟨K, fun k hk => by show (if c then g k else f k) = _; rw [if_neg hc]; exact h k hk⟩
theorem Ev.val {α : Type} {a r : α} (h : a = r) : Ev (fun _ => some a) r := ⟨0, fun _ _ => by rw [h]⟩
theorem Ev.const {α : Type} {a : Option α} {r : α} (h : a = some r) : Ev (fun _ => a) r := ⟨0, fun _ _ => h⟩
theorem Ev.bindc {α β : Type} {a : Option α} {f : Nat → α → Option β} {x : α} {r : β} (h : a = some x) (k : Ev (fun n => f n x) r) : Ev (fun n => a.bind (f n)) r := by
  obtain ⟨K, k⟩ := k
  exact ⟨K, fun n hn => by show a.bind (f n) = _; rw [h]; exact k n hn⟩
theorem Ev.eq {α : Type} {g : Nat → Option α} {r r' : α} (h : Ev g r) (e : r = r') : Ev g r' := e ▸ h
def inB (a b c : Int) : Bool := decide (b ≤ a) && decide (a ≤ c)
theorem Ev.ite {α : Type} {c : Prop} [Decidable c] {g f : Nat → Option α} {r : α} (h : c → Ev g r) (h' : ¬ c → Ev f r) : Ev (fun k => if c then g k else f k) r := by
  by_cases hc : c
  · exact Ev.pos hc (h hc)
  · exact Ev.neg hc (h' hc)
theorem rd_eq (l : List Int) (i : Nat) (h : i < l.length) : rd l (i : Int) = l[i] := by simp [rd, List.getD_eq_getElem?_getD, List.getElem?_eq_getElem h]
theorem rd_app (p : List Int) (x : Int) (s : List Int) : rd (p ++ x :: s) (p.length : Int) = x := by simp [rd, List.getD_eq_getElem?_getD]
theorem w64 {n : Int} (h0 : -9223372036854775808 ≤ n) (h1 : n ≤ 9223372036854775807) : wrap64 n = n := by unfold wrap64; omega
theorem spec_l1In.val (a b c : Int) : spec_l1In.f a b c = some (decide (b ≤ a) && decide (a ≤ c)) := by
  unfold spec_l1In.f
  by_cases h : a ≥ b
  · rw [if_pos h]; simp [show b ≤ a from h]
  · rw [if_neg h]; simp [show ¬ b ≤ a from h]
theorem spec_l1In.valB (a b c : Int) : spec_l1In.f a b c = some (inB a b c) := spec_l1In.val a b c
theorem impl_within.val (a b c : Int) : impl_within.f a b c = some (decide (b ≤ a) && decide (a ≤ c)) := by
  unfold impl_within.f
  by_cases h : b ≤ a
  · rw [if_pos h]; simp [h]
  · rw [if_neg h]; simp [h]
theorem impl_within.valB (a b c : Int) : impl_within.f a b c = some (inB a b c) := impl_within.val a b c
/-- No element is less than the one before. -/
def sortedB : List Int → Bool
  | [] => true
  | [_] => true
  | x :: y :: s => decide (x ≤ y) && sortedB (y :: s)
theorem sortedB_iff (l : List Int) : sortedB l = true ↔ ∀ i : Nat, ∀ h : i + 1 < l.length, l[i] ≤ l[i + 1] := by
  induction l with
  | nil => simp [sortedB]
  | cons x s ih =>
    cases s with
    | nil => simp [sortedB]
    | cons y s =>
      simp only [sortedB, Bool.and_eq_true, decide_eq_true_eq, ih]
      constructor
      · rintro ⟨h1, h2⟩ i hi
        cases i with
        | zero => exact h1
        | succ i => exact h2 i (by simpa using hi)
      · intro h
        exact ⟨h 0 (by simp), fun i hi => h (i + 1) (by simpa using hi)⟩
theorem ite_and (t x : Bool) : (if t = true then some x else some false) = some (t && x) := by cases t <;> rfl
def clueB (k a b : Int) : Bool :=
  if k = 0 then inB a 0 4 && b == 0
  else if k = 1 then inB a 0 24 && b == 0
  else if k = 3 then inB a 0 24 && b == 0
  else if k = 2 then inB a 0 24 && inB b 0 1
  else if k = 4 then inB a 0 24 && inB b 0 16
  else if k = 5 then inB a 1 6 && inB b 0 4
  else false
theorem spec_pzClue.ev (k a b : Int) : Ev (fun n => spec_pzClue.f n k a b) (clueB k a b) := by
  unfold spec_pzClue.f
  by_cases h0 : k = 0
  · refine Ev.pos h0 (Ev.const ?_)
    rw [spec_l1In.valB, Option.bind_some, ite_and]; simp [clueB, h0]
  · refine Ev.neg h0 ?_
    by_cases h1 : k = 1
    · refine Ev.pos h1 (Ev.step (f := fun _ => some (clueB k a b)) (fun n => ?_) (Ev.val rfl))
      subst h1
      rw [spec_pzClue.j0, if_pos (by rfl), spec_l1In.valB, Option.bind_some, ite_and]; simp [clueB]
    · refine Ev.neg h1 (Ev.step (f := fun _ => some (clueB k a b)) (fun n => ?_) (Ev.val rfl))
      rw [spec_pzClue.j0]
      by_cases h3 : k = 3
      · subst h3
        rw [if_pos (by rfl), spec_l1In.valB, Option.bind_some, ite_and]; simp [clueB]
      · rw [if_neg (by simp [h3])]
        simp only [spec_l1In.valB, Option.bind_some, ite_and]
        unfold clueB
        rw [if_neg h0, if_neg h1, if_neg h3]
        by_cases h2 : k = 2
        · rw [if_pos h2, if_pos h2]
        · rw [if_neg h2, if_neg h2]
          by_cases h4 : k = 4
          · rw [if_pos h4, if_pos h4]
          · rw [if_neg h4, if_neg h4]
            by_cases h5 : k = 5
            · rw [if_pos h5, if_pos h5]
            · rw [if_neg h5, if_neg h5]
theorem impl_IsClue.ev (k a b : Int) : Ev (fun n => impl_IsClue.f n k a b) (clueB k a b) := by
  unfold impl_IsClue.f
  by_cases h0 : k = 0
  · refine Ev.pos h0 (Ev.const ?_)
    rw [impl_within.valB, Option.bind_some, ite_and]; simp [clueB, h0]
  · refine Ev.neg h0 ?_
    by_cases h1 : k = 1
    · refine Ev.pos h1 (Ev.step (f := fun _ => some (clueB k a b)) (fun n => ?_) (Ev.val rfl))
      subst h1
      rw [impl_IsClue.j0, if_pos (by rfl), impl_within.valB, Option.bind_some, ite_and]; simp [clueB]
    · refine Ev.neg h1 (Ev.step (f := fun _ => some (clueB k a b)) (fun n => ?_) (Ev.val rfl))
      rw [impl_IsClue.j0]
      by_cases h3 : k = 3
      · subst h3
        rw [if_pos (by rfl), impl_within.valB, Option.bind_some, ite_and]; simp [clueB]
      · rw [if_neg (by simp [h3])]
        simp only [impl_within.valB, Option.bind_some, ite_and]
        unfold clueB
        rw [if_neg h0, if_neg h1, if_neg h3]
        by_cases h2 : k = 2
        · rw [if_pos h2, if_pos h2]
        · rw [if_neg h2, if_neg h2]
          by_cases h4 : k = 4
          · rw [if_pos h4, if_pos h4]
          · rw [if_neg h4, if_neg h4]
            by_cases h5 : k = 5
            · rw [if_pos h5, if_pos h5]
            · rw [if_neg h5, if_neg h5]
theorem laws_toClue.val (k a b : Int) : laws_toClue.f k a b = some (k, a, b) := rfl
def clueIn (c : S23) : S25 := ⟨c.f0, c.f1, c.f2⟩
theorem laws_szClueS.val (l : List S23) (hl : l.length ≤ 9223372036854775807) : laws_szClueS.f l 1048576 = some (if 1048576 < (l.length : Int) then (-1 : Int) else 1048576 - (l.length : Int)) := by
  unfold laws_szClueS.f
  rw [w64 (by omega) (by omega)]
  by_cases h : 1048576 < (l.length : Int)
  · rw [if_pos (by omega), if_pos h]
  · rw [if_neg (by omega), if_neg h]
theorem laws_szPuzzle.val (l : List S23) (hl : l.length ≤ 9223372036854775807) : laws_szPuzzle.f l 1048576 = some (if 1048576 < (l.length : Int) then (-1 : Int) else 1048576 - (l.length : Int)) := by
  unfold laws_szPuzzle.f
  rw [laws_szClueS.val l hl, Option.bind_some]
  by_cases h : 1048576 < (l.length : Int)
  · rw [if_pos h, if_pos (by omega)]
  · rw [if_neg h, if_neg (by omega)]
theorem rd_TL_app (p : List S23) (x : S23) (s : List S23) : rd_T23 (p ++ x :: s) (p.length : Int) = x := by simp [rd_T23, List.getD_eq_getElem?_getD]
theorem laws_toClueS.ev_l (s : List S23) : ∀ (p : List S23) (q r : List S25), p.length + s.length ≤ 9223372036854775806 → q.length = p.length → r.length = s.length → Ev (fun k => laws_toClueS.l0 k (p ++ s) (q ++ r) (p.length : Int)) (q ++ s.map clueIn) := by
  induction s with
  | nil =>
    intro p q r hp hq hr
    obtain rfl : r = [] := List.eq_nil_of_length_eq_zero (by simpa using hr)
    refine Ev.step (f := fun _ => some (q ++ [])) (fun k => ?_) (Ev.val (by simp))
    rw [laws_toClueS.l0, if_neg (by simp)]
  | cons x s ih =>
    intro p q r hp hq hr
    obtain _ | ⟨y, r⟩ := r
    · simp at hr
    simp only [List.length_cons] at hp hr
    have h := ih (p ++ [x]) (q ++ [clueIn x]) r (by simp <;> omega) (by simp [hq]) (by omega)
    refine Ev.step (f := fun k => laws_toClueS.l0 k ((p ++ [x]) ++ s) ((q ++ [clueIn x]) ++ r) ((p ++ [x]).length : Int)) (fun k => ?_) (Ev.eq h (by simp))
    rw [laws_toClueS.l0, if_pos (by simp <;> omega), if_pos (by omega), rd_TL_app, laws_toClue.val, Option.bind_some, if_pos (by simp <;> omega), w64 (by omega) (by omega)]
    have e : (q ++ y :: r).set (p.length : Int).toNat (clueIn x) = (q ++ [clueIn x]) ++ r := by
      rw [show (p.length : Int).toNat = q.length by omega, List.set_append_right _ _ (Nat.le_refl _)]
      simp
    simp only [clueIn] at e ⊢
    rw [e]
    simp
theorem laws_toClueS.ev (l : List S23) (hl : (l.length : Int) ≤ 1048576) : Ev (fun k => laws_toClueS.f k l) (l.map clueIn) := by
  have h := laws_toClueS.ev_l l [] [] (List.replicate l.length z25) (by simp <;> omega) rfl (by simp)
  refine Ev.congr (fun k => ?_) h
  simp only [laws_toClueS.f]
  rw [if_pos (by omega), if_pos (by omega)]
  simp
theorem laws_toPuzzle.ev (l : List S23) (hl : (l.length : Int) ≤ 1048576) : Ev (fun k => laws_toPuzzle.f k l) (l.map clueIn) := by
  unfold laws_toPuzzle.f
  exact Ev.bind (laws_toClueS.ev l hl) (Ev.val rfl)
theorem rd_TI_app (p : List S25) (x : S25) (s : List S25) : rd_T25 (p ++ x :: s) (p.length : Int) = x := by simp [rd_T25, List.getD_eq_getElem?_getD]
theorem laws_eqClueS.same_l (s : List S25) : ∀ (p : List S25), p.length + s.length ≤ 9223372036854775806 → Ev (fun k => laws_eqClueS.l0 k (p ++ s) (p ++ s) (p.length : Int)) true := by
  induction s with
  | nil =>
    intro p hp
    refine Ev.step (f := fun _ => some true) (fun k => ?_) (Ev.val rfl)
    rw [laws_eqClueS.l0, if_neg (by simp)]
  | cons x s ih =>
    intro p hp
    simp only [List.length_cons] at hp
    have h := ih (p ++ [x]) (by simp <;> omega)
    refine Ev.step (f := fun k => laws_eqClueS.l0 k ((p ++ [x]) ++ s) ((p ++ [x]) ++ s) ((p ++ [x]).length : Int)) (fun k => ?_) h
    rw [laws_eqClueS.l0, if_pos (by simp <;> omega), if_pos (by omega), if_pos (by simp <;> omega), rd_TI_app]
    simp only [laws_eqClue.f, if_true, Option.bind_some]
    rw [w64 (by omega) (by omega)]
    simp
theorem laws_eqPuzzle.same (l : List S25) (hl : l.length ≤ 9223372036854775806) : Ev (fun k => laws_eqPuzzle.f k l l) true := by
  unfold laws_eqPuzzle.f laws_eqClueS.f
  refine Ev.bind (Ev.pos rfl (laws_eqClueS.same_l l [] (by simpa using hl))) (Ev.pos rfl (Ev.val rfl))
def puzzleB (l : List S25) : Bool := decide (l.length ≤ 6) && l.all fun c => clueB c.f0 c.f1 c.f2
theorem spec_pzGood.ev_l (s : List S25) : ∀ (p : List S25), p.length + s.length ≤ 9223372036854775806 → Ev (fun k => spec_pzGood.l0 k (p ++ s) ((p ++ s).length : Int) (p.length : Int)) (s.all fun c => clueB c.f0 c.f1 c.f2) := by
  induction s with
  | nil =>
    intro p hp
    refine Ev.step (f := fun _ => some true) (fun k => ?_) (Ev.val rfl)
    rw [spec_pzGood.l0, if_neg (by simp)]
  | cons x s ih =>
    intro p hp
    simp only [List.length_cons] at hp
    have h := ih (p ++ [x]) (by simp <;> omega)
    refine Ev.step (f := fun k => (spec_pzClue.f k x.f0 x.f1 x.f2).bind fun t => if t = true then spec_pzGood.l0 k ((p ++ [x]) ++ s) (((p ++ [x]) ++ s).length : Int) ((p ++ [x]).length : Int) else some false) (fun k => ?_) (Ev.bind (spec_pzClue.ev _ _ _) ?_)
    · rw [spec_pzGood.l0, if_pos (by simp <;> omega), if_pos (by omega), if_pos (by simp <;> omega), rd_TI_app, w64 (by omega) (by omega)]
      simp
    · simp only [List.all_cons]
      refine Ev.ite (fun c => Ev.eq h (by rw [c]; rfl)) (fun c => Ev.val (by rw [Bool.not_eq_true] at c; rw [c]; rfl))
theorem spec_pzGood.ev (l : List S25) : Ev (fun k => spec_pzGood.f k l) (puzzleB l) := by
  unfold spec_pzGood.f puzzleB
  refine Ev.ite (fun c => Ev.val ?_) (fun c => ?_)
  · rw [decide_eq_false (by omega)]; rfl
  · rw [decide_eq_true (by omega)]
    exact spec_pzGood.ev_l l [] (by simp <;> omega)
theorem idxO_ev {α : Type} (p : Nat → α → Option Bool) (P : α → Bool) (hp : ∀ x, Ev (fun k => p k x) (P x)) : ∀ (l : List α) (i : Int), 0 ≤ i → ∃ r, Ev (fun k => idxO (p k) l i) r ∧ decide (0 ≤ r) = l.any P
  | [], i, hi => ⟨-1, Ev.val rfl, rfl⟩
  | x :: s, i, hi => by
    obtain ⟨r, h1, h2⟩ := idxO_ev p P hp s (i + 1) (by omega)
    cases c : P x with
    | true => exact ⟨i, Ev.bind (hp x) (Ev.pos c (Ev.val rfl)), by rw [List.any_cons, c]; simp [hi]⟩
    | false => exact ⟨r, Ev.bind (hp x) (Ev.neg (by simp [c]) h1), by rw [List.any_cons, c, h2]; rfl⟩
theorem impl_IsPuzzle_1.ev (k a b : Int) : Ev (fun n => impl_IsPuzzle_1.f n k a b) (!clueB k a b) := by
  unfold impl_IsPuzzle_1.f
  exact Ev.bind (impl_IsClue.ev k a b) (Ev.val rfl)
theorem impl_IsPuzzle.ev (l : List S25) : Ev (fun k => impl_IsPuzzle.f k l) (puzzleB l) := by
  unfold impl_IsPuzzle.f puzzleB
  obtain ⟨r, h1, h2⟩ := idxO_ev (fun k (x : S25) => impl_IsPuzzle_1.f k x.f0 x.f1 x.f2) (fun x => !clueB x.f0 x.f1 x.f2) (fun x => impl_IsPuzzle_1.ev _ _ _) l 0 (by omega)
  refine Ev.ite (fun c => Ev.bind h1 (Ev.val ?_)) (fun c => Ev.val ?_)
  · rw [h2, decide_eq_true (by omega), List.any_eq_not_all_not]; simp
  · rw [decide_eq_false (by omega)]; rfl
/-- Each element is greater than the one before. -/
def risesB : List Int → Bool
  | [] => true
  | [_] => true
  | x :: y :: s => decide (x < y) && risesB (y :: s)
def ruGoodB (l : List Int) : Bool := decide (2 ≤ l.length) && ((l.all fun x => inB x 0 60) && risesB l) && rd l 0 == 0
theorem risesB_head {x : Int} {s : List Int} (h : risesB (x :: s) = true) : ∀ y ∈ s, x < y := by
  induction s generalizing x with
  | nil => simp
  | cons z s ih =>
    simp only [risesB, Bool.and_eq_true, decide_eq_true_eq] at h
    intro y hy
    rcases List.mem_cons.1 hy with rfl | hy
    · exact h.1
    · have := ih h.2 y hy; omega
theorem risesB_last {l : List Int} (h : risesB l = true) (hne : l ≠ []) : ∀ y ∈ l, y ≤ l.getLast hne := by
  induction l with
  | nil => exact absurd rfl hne
  | cons x s ih =>
    intro y hy
    cases s with
    | nil => simp at hy; simp [hy]
    | cons z s =>
      have h2 : risesB (z :: s) = true := by simp only [risesB, Bool.and_eq_true] at h; exact h.2
      rw [List.getLast_cons (by simp)]
      rcases List.mem_cons.1 hy with rfl | hy
      · have h1 := risesB_head h z (by simp)
        have := ih h2 (by simp) z (by simp)
        omega
      · exact ih h2 (by simp) y hy
theorem rd_last (x : Int) (s : List Int) : rd (x :: s) (s.length : Int) = (x :: s).getLast (by simp) := by
  rw [List.getLast_eq_getElem, rd_eq (x :: s) s.length (by simp)]
  simp
def markedC : List S25 → Int → List S25
  | [], _ => []
  | _ :: s, a => ⟨a, a + 1, a + 2⟩ :: markedC s (a + 3)
theorem markedC_length (s : List S25) (a : Int) : (markedC s a).length = s.length := by
  induction s generalizing a with
  | nil => rfl
  | cons x s ih => simp [markedC, ih]
theorem rd_TI_set (p : List S25) (x y : S25) (s : List S25) : (p ++ x :: s).set (p.length : Int).toNat y = p ++ y :: s := by
  rw [Int.toNat_natCast, List.set_append_right _ _ (Nat.le_refl _)]; simp
theorem laws_markClueS.ev_l (s : List S25) : ∀ (p : List S25) (a : Int), p.length + s.length ≤ 1000000000000000000 → 0 ≤ a → a + 3 * s.length ≤ 4000000000000000000 → Ev (fun k => laws_markClueS.l0 k (p ++ s) a (p.length : Int)) (a + 3 * s.length, p ++ markedC s a) := by
  induction s with
  | nil =>
    intro p a hp h0 h1
    refine Ev.step (f := fun _ => some (a, p ++ [])) (fun k => ?_) (Ev.val (by simp [markedC]))
    rw [laws_markClueS.l0, if_neg (by simp)]
  | cons x s ih =>
    intro p a hp h0 h1
    simp only [List.length_cons] at hp h1
    have h := ih (p ++ [⟨a, a + 1, a + 2⟩]) (a + 3) (by simp; omega) (by omega) (by omega)
    refine Ev.step (f := fun k => laws_markClueS.l0 k ((p ++ [⟨a, a + 1, a + 2⟩]) ++ s) (a + 3) ((p ++ [(⟨a, a + 1, a + 2⟩ : S25)]).length : Int)) (fun k => ?_) (Ev.eq h ?_)
    · rw [laws_markClueS.l0, if_pos (by simp <;> omega), if_pos (by omega)]
      simp only [rd_TI_app, rd_TI_set, Option.bind_some]
      rw [w64 (n := a + 1) (by omega) (by omega), w64 (n := a + 1 + 1) (by omega) (by omega), w64 (n := a + 1 + 1 + 1) (by omega) (by omega), w64 (by omega) (by omega)]
      rw [show a + 1 + 1 + 1 = a + 3 by omega, show a + 1 + 1 = a + 2 by omega]
      simp
    · simp [markedC]; omega
theorem laws_heldClueS.ev_l (s : List S25) : ∀ (p : List S25) (a : Int), p.length + s.length ≤ 1000000000000000000 → 0 ≤ a → a + 3 * s.length ≤ 4000000000000000000 → Ev (fun k => laws_heldClueS.l0 k (p ++ markedC s a) a (p.length : Int)) (a + 3 * s.length) := by
  induction s with
  | nil =>
    intro p a hp h0 h1
    refine Ev.step (f := fun _ => some a) (fun k => ?_) (Ev.val (by simp))
    rw [laws_heldClueS.l0, if_neg (by simp [markedC])]
  | cons x s ih =>
    intro p a hp h0 h1
    simp only [List.length_cons] at hp h1
    have h := ih (p ++ [⟨a, a + 1, a + 2⟩]) (a + 3) (by simp; omega) (by omega) (by omega)
    refine Ev.step (f := fun k => laws_heldClueS.l0 k ((p ++ [⟨a, a + 1, a + 2⟩]) ++ markedC s (a + 3)) (a + 3) ((p ++ [(⟨a, a + 1, a + 2⟩ : S25)]).length : Int)) (fun k => ?_) (Ev.eq h ?_)
    · simp only [markedC]
      rw [laws_heldClueS.l0, if_pos (by simp <;> omega), if_pos (by omega)]
      simp only [rd_TI_app]
      rw [w64 (n := a + 1) (by omega) (by omega), w64 (n := a + 1 + 1) (by omega) (by omega), w64 (n := a + 1 + 1 + 1) (by omega) (by omega), w64 (by omega) (by omega)]
      rw [if_pos trivial, if_pos (show a + 2 = a + 1 + 1 by omega), show a + 1 + 1 + 1 = a + 3 by omega]
      simp
    · simp; omega
theorem laws_puzzle.mark (l : List S25) (hl : l.length ≤ 1000000000000000000) : Ev (fun k => laws_markPuzzle.f k l 1) ((1 + 3 * l.length : Int), markedC l 1) := by
  unfold laws_markPuzzle.f laws_markClueS.f
  exact Ev.bind (laws_markClueS.ev_l l [] 1 (by simpa using hl) (by omega) (by omega)) (Ev.val rfl)
theorem laws_puzzle.held (l : List S25) (hl : l.length ≤ 1000000000000000000) : Ev (fun k => laws_heldPuzzle.f k (markedC l 1) 1) (1 + 3 * l.length : Int) := by
  unfold laws_heldPuzzle.f laws_heldClueS.f
  exact Ev.bind (laws_heldClueS.ev_l l [] 1 (by simpa using hl) (by omega) (by omega)) (Ev.neg (by omega) (Ev.val rfl))
def dropClueB (l : List S25) (k : Int) : List S25 × Bool := if puzzleB l = true ∧ 0 ≤ k ∧ k < l.length then (l.eraseIdx k.toNat, true) else ([], false)
theorem dropClueB_length (l : List S25) (k : Int) : (dropClueB l k).1.length ≤ 7 := by
  unfold dropClueB
  split
  · rename_i h
    have : l.length ≤ 6 := by have := h.1; unfold puzzleB at this; simp at this; exact this.1
    rw [List.length_eraseIdx_of_lt (by omega)]; show l.length - 1 ≤ 7; omega
  · simp
theorem puzzleB_length {l : List S25} (h : puzzleB l = true) : l.length ≤ 6 := by unfold puzzleB at h; simp at h; exact h.1
theorem inB_iff (a b c : Int) : inB a b c = true ↔ b ≤ a ∧ a ≤ c := by simp [inB]
theorem spec_pzWithout.val (l : List S25) (k : Int) (h0 : 0 ≤ k) (h1 : k < l.length) (hl : l.length ≤ 1000000) : spec_pzWithout.f l k = some (l.eraseIdx k.toNat) := by
  unfold spec_pzWithout.f
  simp only [Option.bind_some, List.nil_append]
  rw [if_pos h0, if_pos (by omega), if_pos (by simp <;> omega), w64 (by omega) (by omega), if_pos (by omega), if_pos (by omega), if_pos (by simp <;> omega), List.eraseIdx_eq_take_drop_succ, show (k + 1).toNat = k.toNat + 1 by omega]
theorem spec_DropClue.ev (l : List S25) (k : Int) : Ev (fun n => spec_DropClue.f n l k) (dropClueB l k) := by
  unfold spec_DropClue.f dropClueB
  refine Ev.bind (spec_pzGood.ev l) (Ev.ite (fun h1 => ?_) (fun h1 => Ev.val (by rw [if_neg (fun h => h1 h.1)])))
  have hl := puzzleB_length h1
  refine Ev.bindc (spec_l1In.valB _ _ _) ?_
  rw [w64 (by omega) (by omega)]
  refine Ev.ite (fun h2 => ?_) (fun h2 => Ev.val ?_)
  · rw [inB_iff] at h2
    refine Ev.bindc (spec_pzWithout.val l k (by omega) (by omega) (by omega)) (Ev.val ?_)
    rw [if_pos ⟨h1, by omega, by omega⟩]
  · rw [inB_iff] at h2
    rw [if_neg (fun h => h2 ⟨by omega, by omega⟩)]
theorem impl_dropped.val (l : List S25) (k : Int) (h0 : 0 ≤ k) (h1 : k < l.length) (hl : l.length ≤ 1000000) : impl_dropped.f l k = some (l.eraseIdx k.toNat) := by
  unfold impl_dropped.f; rw [if_pos h0, if_pos h1, if_pos hl]
theorem impl_DropClue.ev (l : List S25) (k : Int) : Ev (fun n => impl_DropClue.f n l k) (dropClueB l k) := by
  unfold impl_DropClue.f dropClueB
  refine Ev.bind (impl_IsPuzzle.ev l) (Ev.ite (fun h1 => ?_) (fun h1 => Ev.val (by rw [if_neg (fun h => h1 h.1)])))
  have hl := puzzleB_length h1
  refine Ev.bindc (impl_within.valB _ _ _) ?_
  rw [w64 (by omega) (by omega)]
  refine Ev.ite (fun h2 => ?_) (fun h2 => Ev.val ?_)
  · rw [inB_iff] at h2
    refine Ev.bindc (impl_dropped.val l k (by omega) (by omega) (by omega)) (Ev.val ?_)
    rw [if_pos ⟨h1, by omega, by omega⟩]
  · rw [inB_iff] at h2
    rw [if_neg (fun h => h2 ⟨by omega, by omega⟩)]
theorem FnExactDropClue : laws_FnExactDropClue.Pure := by
  intro l a hl _
  refine Ev.rounds (g := fun n => laws_FnExactDropClue.f n l a) ?_
  unfold laws_FnExactDropClue.f
  refine Ev.bindc (laws_szPuzzle.val l hl) ?_
  by_cases hc : 1048576 < (l.length : Int)
  · exact Ev.pos (by rw [if_pos hc]; omega) (Ev.val rfl)
  refine Ev.neg (by rw [if_neg hc]; omega) ?_
  have h1 := laws_toPuzzle.ev l (by omega)
  have hm : ((l.map clueIn).length : Int) ≤ 1048576 := by simp; omega
  have hR := dropClueB_length (l.map clueIn) a
  have hs := spec_DropClue.ev (l.map clueIn) a
  have hi := impl_DropClue.ev (l.map clueIn) a
  generalize (l.map clueIn) = P at *
  generalize dropClueB P a = R at *
  have heP := laws_eqPuzzle.same P (by omega)
  have heR := laws_eqPuzzle.same R.1 (by omega)
  refine Ev.bind h1 (Ev.bind hs (Ev.bind h1 (Ev.bind hi (Ev.bind heR (Ev.pos rfl ?_)))))
  apply Ev.step
  · intro k; rw [laws_FnExactDropClue.j0]
  refine Ev.neg (by simp) (Ev.bind h1 (Ev.bind heP (Ev.pos rfl (Ev.bind (laws_puzzle.mark P (by omega)) (Ev.neg (by omega) (Ev.bind heR (Ev.pos rfl ?_)))))))
  apply Ev.step
  · intro k; rw [laws_FnExactDropClue.j1]
  refine Ev.neg (by simp) (Ev.bind (laws_puzzle.mark R.1 (by omega)) (Ev.bind (laws_puzzle.held R.1 (by omega)) (Ev.neg (by omega) (Ev.pos rfl (Ev.bind h1 (Ev.bind hi (Ev.bind heR (Ev.pos rfl ?_))))))))
  apply Ev.step
  · intro k; rw [laws_FnExactDropClue.j2]
  exact Ev.neg (by simp) (Ev.bind (laws_puzzle.held R.1 (by omega)) (Ev.neg (by omega) (Ev.pos rfl (Ev.val rfl))))
end Go.Proofs.Ytgjbclaodlhajaa.Pure
