/- For all arguments within the row's reach the law FnExactCardsText answers true.
No further conditions. -/
import Derived.Test.YthklbgllgeigdaaDoorPFnExactCardsTextx0
import Derived.Test.YthklbgllgeigdaaDoorPFnExactCardsTextx1
import Derived.Test.YthklbgllgeigdaaDoorPFnExactCardsTextx2
import Derived.Test.YthklbgllgeigdaaDoorPFnExactCardsTextx3
import Derived.Test.YthklbgllgeigdaaDoorPFnExactCardsTextx4
import Derived.Test.YthklbgllgeigdaaDoorPFnExactCardsTextx5
import Derived.Test.YthklbgllgeigdaaDoorPFnExactCardsTextxs
set_option linter.unusedVariables false
set_option linter.unusedSimpArgs false
namespace Go.Proofs.YthklbgllgeigdaaDoor.Pure
open Go.RowKit Go.Proofs.YthklbgllgeigdaaDoor.PFnExactCardsText Go.Proofs.YthklbgllgeigdaaDoorW.PrintWords Go.Proofs.YthklbgllgeigdaaDoorW.PrintLast Go.Proofs.YthklbgllgeigdaaDoorW.PrintMore
theorem Ev.pos {α : Type} {c : Prop} [Decidable c] {g f : Nat → Option α} {r : α} (hc : c) (h : Ev g r) : Ev (fun k => if c then g k else f k) r := by
  obtain ⟨K, h⟩ := h
  exact ⟨K, fun k hk => by show (if c then g k else f k) = _; rw [if_pos hc]; exact h k hk⟩
theorem Ev.neg {α : Type} {c : Prop} [Decidable c] {g f : Nat → Option α} {r : α} (hc : ¬ c) (h : Ev f r) : Ev (fun k => if c then g k else f k) r := by
  obtain ⟨K, h⟩ := h
  exact ⟨K, fun k hk => by show (if c then g k else f k) = _; rw [if_neg hc]; exact h k hk⟩
theorem Ev.val {α : Type} {a r : α} (h : a = r) : Ev (fun _ => some a) r := ⟨0, fun _ _ => by rw [h]⟩
theorem Ev.const {α : Type} {a : Option α} {r : α} (h : a = some r) : Ev (fun _ => a) r := ⟨0, fun _ _ => h⟩
theorem Ev.bindc {α β : Type} {a : Option α} {f : Nat → α → Option β} {x : α} {r : β} (h : a = some x) (k : Ev (fun n => f n x) r) : Ev (fun n => a.bind (f n)) r := by
  obtain ⟨K, k⟩ := k
  exact ⟨K, fun n hn => by show a.bind (f n) = _; rw [h]; exact k n hn⟩
theorem Ev.eq {α : Type} {g : Nat → Option α} {r r' : α} (h : Ev g r) (e : r = r') : Ev g r' := e ▸ h
def inB (a b c : Int) : Bool := decide (b ≤ a) && decide (a ≤ c)
theorem Ev.ite {α : Type} {c : Prop} [Decidable c] {g f : Nat → Option α} {r : α} (h : c → Ev g r) (h' : ¬ c → Ev f r) : Ev (fun k => if c then g k else f k) r := by
  by_cases hc : c
  · exact Ev.pos hc (h hc)
  · exact Ev.neg hc (h' hc)
theorem rd_eq (l : List Int) (i : Nat) (h : i < l.length) : rd l (i : Int) = l[i] := by simp [rd, List.getD_eq_getElem?_getD, List.getElem?_eq_getElem h]
theorem rd_app (p : List Int) (x : Int) (s : List Int) : rd (p ++ x :: s) (p.length : Int) = x := by simp [rd, List.getD_eq_getElem?_getD]
theorem w64 {n : Int} (h0 : -9223372036854775808 ≤ n) (h1 : n ≤ 9223372036854775807) : wrap64 n = n := by unfold wrap64; omega
theorem laws_toIntS.ev_l (l : List Int) (hl : l.length ≤ 35184372088832) (d : Nat) : ∀ (acc : List Int) (i : Nat), acc.length = l.length → i + d = l.length → (∀ j, j < i → acc[j]? = l[j]?) → Ev (fun k => laws_toIntS.l0 k l acc (i : Int)) l := by
  induction d with
  | zero =>
    intro acc i ha hi hj
    refine Ev.step (f := fun _ => some acc) (fun k => ?_) (Ev.val ?_)
    · rw [laws_toIntS.l0, if_neg (by omega)]
    · apply List.ext_getElem?
      intro j
      by_cases h : j < i
      · exact hj j h
      · rw [List.getElem?_eq_none (by omega), List.getElem?_eq_none (by omega)]
  | succ d ih =>
    intro acc i ha hi hj
    have hlt : i < l.length := by omega
    refine Ev.step (f := fun k => laws_toIntS.l0 k l (acc.set i l[i]) ((i + 1 : Nat) : Int)) (fun k => ?_) (ih (acc.set i l[i]) (i + 1) (by simp [ha]) (by omega) ?_)
    · rw [laws_toIntS.l0, if_pos (by omega), if_pos (by omega), if_pos (by omega), w64 (by omega) (by omega), rd_eq l i hlt]
      simp
    · intro j hj'
      by_cases e : j = i
      · subst e; rw [List.getElem?_set_self (by omega), List.getElem?_eq_getElem hlt]
      · rw [List.getElem?_set_ne (by omega)]; exact hj j (by omega)
theorem laws_toIntS.ev (l : List Int) (hl : l.length ≤ 35184372088832) : Ev (fun k => laws_toIntS.f k l) l := by
  have h := laws_toIntS.ev_l l hl l.length (List.replicate l.length 0) 0 (by simp) (by omega) (fun j hj => absurd hj (by omega))
  refine Ev.congr (fun k => ?_) h
  simp only [laws_toIntS.f]
  rw [if_pos (by omega), if_pos (by omega)]
  simp
theorem laws_eqIntS.ev_l (s t : List Int) (hl : s.length ≤ 35184372088832) : ∀ (p : List Int), p.length + s.length ≤ 35184372088832 → s.length = t.length → ∀ q : List Int, q.length = p.length → Ev (fun k => laws_eqIntS.l0 k (p ++ s) (q ++ t) (p.length : Int)) (decide (s = t)) := by
  induction s generalizing t with
  | nil =>
    intro p hp ht q hq
    obtain rfl : t = [] := List.eq_nil_of_length_eq_zero (by simpa using ht.symm)
    refine Ev.step (f := fun _ => some true) (fun k => ?_) (Ev.val (by simp))
    rw [laws_eqIntS.l0, if_neg (by simp)]
  | cons x s ih =>
    intro p hp ht q hq
    obtain _ | ⟨y, t⟩ := t
    · simp at ht
    simp only [List.length_cons] at ht hp hl
    have e1 : rd (p ++ x :: s) (p.length : Int) = x := rd_app p x s
    have e2 : rd (q ++ y :: t) (p.length : Int) = y := by rw [← hq]; exact rd_app q y t
    by_cases e : x = y
    · subst e
      have h := ih t (by omega) (p ++ [x]) (by simp <;> omega) (by omega) (q ++ [x]) (by simp [hq])
      refine Ev.step (f := fun k => laws_eqIntS.l0 k ((p ++ [x]) ++ s) ((q ++ [x]) ++ t) ((p ++ [x]).length : Int)) (fun k => ?_) (Ev.eq h (by simp))
      rw [laws_eqIntS.l0, if_pos (by simp <;> omega), if_pos (by omega), if_pos (by simp <;> omega), e1, e2, if_pos rfl, w64 (by omega) (by omega)]
      simp
    · refine Ev.step (f := fun _ => some false) (fun k => ?_) (Ev.val (by simp [e]))
      rw [laws_eqIntS.l0, if_pos (by simp <;> omega), if_pos (by omega), if_pos (by simp <;> omega), e1, e2, if_neg e]
theorem laws_eqIntS.ev (s t : List Int) (hl : s.length ≤ 35184372088832) : Ev (fun k => laws_eqIntS.f k s t) (decide (s = t)) := by
  unfold laws_eqIntS.f
  refine Ev.ite (fun h => ?_) (fun h => Ev.val ?_)
  · exact laws_eqIntS.ev_l s t hl [] (by simpa using hl) (by omega) [] rfl
  · have : s ≠ t := by rintro rfl; exact h rfl
    simp [this]
theorem spec_l1In.val (a b c : Int) : spec_l1In.f a b c = some (decide (b ≤ a) && decide (a ≤ c)) := by
  unfold spec_l1In.f
  by_cases h : a ≥ b
  · rw [if_pos h]; simp [show b ≤ a from h]
  · rw [if_neg h]; simp [show ¬ b ≤ a from h]
theorem spec_l1In.valB (a b c : Int) : spec_l1In.f a b c = some (inB a b c) := spec_l1In.val a b c
theorem impl_within.val (a b c : Int) : impl_within.f a b c = some (decide (b ≤ a) && decide (a ≤ c)) := by
  unfold impl_within.f
  by_cases h : b ≤ a
  · rw [if_pos h]; simp [h]
  · rw [if_neg h]; simp [h]
theorem impl_within.valB (a b c : Int) : impl_within.f a b c = some (inB a b c) := impl_within.val a b c
/-- No element is less than the one before. -/
def sortedB : List Int → Bool
  | [] => true
  | [_] => true
  | x :: y :: s => decide (x ≤ y) && sortedB (y :: s)
theorem sortedB_iff (l : List Int) : sortedB l = true ↔ ∀ i : Nat, ∀ h : i + 1 < l.length, l[i] ≤ l[i + 1] := by
  induction l with
  | nil => simp [sortedB]
  | cons x s ih =>
    cases s with
    | nil => simp [sortedB]
    | cons y s =>
      simp only [sortedB, Bool.and_eq_true, decide_eq_true_eq, ih]
      constructor
      · rintro ⟨h1, h2⟩ i hi
        cases i with
        | zero => exact h1
        | succ i => exact h2 i (by simpa using hi)
      · intro h
        exact ⟨h 0 (by simp), fun i hi => h (i + 1) (by simpa using hi)⟩
def piGoodB (l : List Int) : Bool := decide (l.length ≤ 20) && (l.all fun x => decide (1 ≤ x) && decide (x ≤ 10000)) && sortedB l
theorem impl_areWithin.val (l : List Int) (a b : Int) : impl_areWithin.f l a b = some (l.all fun x => decide (a ≤ x) && decide (x ≤ b)) := rfl
theorem ite_and (t x : Bool) : (if t = true then some x else some false) = some (t && x) := by cases t <;> rfl
def clueB (k a b : Int) : Bool :=
  if k = 0 then inB a 0 4 && b == 0
  else if k = 1 then inB a 0 24 && b == 0
  else if k = 3 then inB a 0 24 && b == 0
  else if k = 2 then inB a 0 24 && inB b 0 1
  else if k = 4 then inB a 0 24 && inB b 0 16
  else if k = 5 then inB a 1 6 && inB b 0 4
  else false
theorem laws_szIntS.val (l : List Int) (a : Int) (hl : l.length ≤ 9223372036854775807) (h0 : 0 ≤ a) (h1 : a ≤ 1048576) : laws_szIntS.f l a = some (if a < (l.length : Int) then (-1 : Int) else a - (l.length : Int)) := by
  unfold laws_szIntS.f
  rw [w64 (by omega) (by omega)]
  by_cases h : a < (l.length : Int)
  · rw [if_pos (by omega), if_pos h]
  · rw [if_neg (by omega), if_neg h]
/-- Each element is greater than the one before. -/
def risesB : List Int → Bool
  | [] => true
  | [_] => true
  | x :: y :: s => decide (x < y) && risesB (y :: s)
theorem rises_of_pairwise : ∀ l : List Int, l.Pairwise (fun x y => x < y) → risesB l = true
  | [], _ => rfl
  | [_], _ => rfl
  | x :: y :: s, h => by
    rw [List.pairwise_cons] at h
    rw [risesB, rises_of_pairwise (y :: s) h.2, decide_eq_true (h.1 y (by simp))]; rfl
theorem spec_l1Rising.ev_l (a b : Int) (s : List Int) : ∀ (p : List Int) (x : Int), p.length + s.length + 1 ≤ 9223372036854775806 → Ev (fun k => spec_l1Rising.l0 k (p ++ x :: s) a b (p ++ x :: s) ((p ++ x :: s).length : Int) ((p.length + 1 : Nat) : Int)) ((s.all fun x => inB x a b) && risesB (x :: s)) := by
  induction s with
  | nil =>
    intro p x hp
    refine Ev.step (f := fun _ => some true) (fun k => ?_) (Ev.val (by simp [risesB]))
    rw [spec_l1Rising.l0, if_neg (by simp)]
  | cons y s ih =>
    intro p x hp
    simp only [List.length_cons] at hp
    have e1 : rd (p ++ x :: y :: s) (p.length : Int) = x := rd_app p x _
    have e2 : rd (p ++ x :: y :: s) ((p.length + 1 : Nat) : Int) = y := by
      have := rd_app (p ++ [x]) y s
      simpa using this
    have hw : wrap64 (((p.length + 1 : Nat) : Int) - 1) = (p.length : Int) := by rw [w64 (by omega) (by omega)]; omega
    have h := ih (p ++ [x]) y (by simp <;> omega)
    by_cases c : inB y a b = true
    · by_cases c2 : x < y
      · refine Ev.step (f := fun k => spec_l1Rising.l0 k ((p ++ [x]) ++ y :: s) a b ((p ++ [x]) ++ y :: s) (((p ++ [x]) ++ y :: s).length : Int) (((p ++ [x]).length + 1 : Nat) : Int)) (fun k => ?_) (Ev.eq h (by simp only [List.all_cons, c, risesB, c2, decide_true, Bool.true_and]))
        rw [spec_l1Rising.l0, if_pos (by simp <;> omega), if_pos (by omega), if_pos (by simp <;> omega), e2, spec_l1In.valB, Option.bind_some, if_pos c, if_pos (by omega), hw, if_pos (by omega), if_pos (by simp <;> omega), e1, if_neg (by omega), w64 (by omega) (by omega)]
        simp
      · refine Ev.step (f := fun _ => some false) (fun k => ?_) (Ev.val (by simp [risesB, c2]))
        rw [spec_l1Rising.l0, if_pos (by simp <;> omega), if_pos (by omega), if_pos (by simp <;> omega), e2, spec_l1In.valB, Option.bind_some, if_pos c, if_pos (by omega), hw, if_pos (by omega), if_pos (by simp <;> omega), e1, if_pos (by omega)]
    · refine Ev.step (f := fun _ => some false) (fun k => ?_) (Ev.val (by simp only [List.all_cons]; rw [Bool.not_eq_true] at c; rw [c]; rfl))
      rw [spec_l1Rising.l0, if_pos (by simp <;> omega), if_pos (by omega), if_pos (by simp <;> omega), e2, spec_l1In.valB, Option.bind_some, if_neg c]
theorem spec_l1Rising.ev (l : List Int) (a b : Int) (hl : l.length ≤ 9223372036854775806) : Ev (fun k => spec_l1Rising.f k l a b) ((l.all fun x => inB x a b) && risesB l) := by
  unfold spec_l1Rising.f
  cases l with
  | nil =>
    refine Ev.step (f := fun _ => some true) (fun k => ?_) (Ev.val (by simp [risesB]))
    rw [spec_l1Rising.l0, if_neg (by simp)]
  | cons x s =>
    have h := spec_l1Rising.ev_l a b s [] x (by simpa using hl)
    simp only [List.length_cons] at hl
    have e1 : rd (x :: s) 0 = x := by simp [rd]
    by_cases c : inB x a b = true
    · refine Ev.step (f := fun k => spec_l1Rising.l0 k (x :: s) a b (x :: s) ((x :: s).length : Int) ((([] : List Int).length + 1 : Nat) : Int)) (fun k => ?_) (Ev.eq h (by simp [c]))
      rw [spec_l1Rising.l0, if_pos (by simp <;> omega), if_pos (by omega), if_pos (by simp <;> omega), e1, spec_l1In.valB, Option.bind_some, if_pos c, if_neg (by omega), w64 (by omega) (by omega)]
      simp
    · refine Ev.step (f := fun _ => some false) (fun k => ?_) (Ev.val (by simp only [List.all_cons]; rw [Bool.not_eq_true] at c; rw [c]; rfl))
      rw [spec_l1Rising.l0, if_pos (by simp <;> omega), if_pos (by omega), if_pos (by simp <;> omega), e1, spec_l1In.valB, Option.bind_some, if_neg c]
theorem impl_rises.ev_l (s : List Int) : ∀ (p : List Int) (x : Int), p.length + s.length + 1 ≤ 9223372036854775806 → Ev (fun k => impl_rises.l0 k (p ++ x :: s) ((p.length + 1 : Nat) : Int)) (risesB (x :: s)) := by
  induction s with
  | nil =>
    intro p x hp
    refine Ev.step (f := fun _ => some true) (fun k => ?_) (Ev.val (by simp [risesB]))
    rw [impl_rises.l0, if_neg (by simp)]
  | cons y s ih =>
    intro p x hp
    simp only [List.length_cons] at hp
    have e1 : rd (p ++ x :: y :: s) (p.length : Int) = x := rd_app p x _
    have e2 : rd (p ++ x :: y :: s) ((p.length + 1 : Nat) : Int) = y := by
      have := rd_app (p ++ [x]) y s
      simpa using this
    have hw : wrap64 (((p.length + 1 : Nat) : Int) - 1) = (p.length : Int) := by rw [w64 (by omega) (by omega)]; omega
    by_cases c : x < y
    · have h := ih (p ++ [x]) y (by simp <;> omega)
      refine Ev.step (f := fun k => impl_rises.l0 k ((p ++ [x]) ++ y :: s) (((p ++ [x]).length + 1 : Nat) : Int)) (fun k => ?_) (Ev.eq h (by simp [risesB, c]))
      rw [impl_rises.l0, if_pos (by simp <;> omega), hw, if_pos (by omega), if_pos (by simp <;> omega), if_pos (by omega), e1, e2, if_neg (by omega), w64 (by omega) (by omega)]
      simp
    · refine Ev.step (f := fun _ => some false) (fun k => ?_) (Ev.val (by simp [risesB, c]))
      rw [impl_rises.l0, if_pos (by simp <;> omega), hw, if_pos (by omega), if_pos (by simp <;> omega), if_pos (by omega), e1, e2, if_pos (by omega)]
theorem impl_rises.ev (l : List Int) (hl : l.length ≤ 9223372036854775806) : Ev (fun k => impl_rises.f k l) (risesB l) := by
  unfold impl_rises.f
  cases l with
  | nil =>
    refine Ev.step (f := fun _ => some true) (fun k => ?_) (Ev.val (by simp [risesB]))
    rw [impl_rises.l0, if_neg (by simp)]
  | cons x s => exact impl_rises.ev_l s [] x (by simp at hl ⊢; omega)
def ruGoodB (l : List Int) : Bool := decide (2 ≤ l.length) && ((l.all fun x => inB x 0 60) && risesB l) && rd l 0 == 0
theorem risesB_head {x : Int} {s : List Int} (h : risesB (x :: s) = true) : ∀ y ∈ s, x < y := by
  induction s generalizing x with
  | nil => simp
  | cons z s ih =>
    simp only [risesB, Bool.and_eq_true, decide_eq_true_eq] at h
    intro y hy
    rcases List.mem_cons.1 hy with rfl | hy
    · exact h.1
    · have := ih h.2 y hy; omega
theorem risesB_last {l : List Int} (h : risesB l = true) (hne : l ≠ []) : ∀ y ∈ l, y ≤ l.getLast hne := by
  induction l with
  | nil => exact absurd rfl hne
  | cons x s ih =>
    intro y hy
    cases s with
    | nil => simp at hy; simp [hy]
    | cons z s =>
      have h2 : risesB (z :: s) = true := by simp only [risesB, Bool.and_eq_true] at h; exact h.2
      rw [List.getLast_cons (by simp)]
      rcases List.mem_cons.1 hy with rfl | hy
      · have h1 := risesB_head h z (by simp)
        have := ih h2 (by simp) z (by simp)
        omega
      · exact ih h2 (by simp) y hy
theorem rd_last (x : Int) (s : List Int) : rd (x :: s) (s.length : Int) = (x :: s).getLast (by simp) := by
  rw [List.getLast_eq_getElem, rd_eq (x :: s) s.length (by simp)]
  simp
theorem pairwise_of_rises : ∀ l : List Int, risesB l = true → l.Pairwise (fun x y => x < y)
  | [], _ => List.Pairwise.nil
  | x :: s, h => List.pairwise_cons.2 ⟨risesB_head h, pairwise_of_rises s (by
      cases s with
      | nil => rfl
      | cons y s => rw [risesB, Bool.and_eq_true] at h; exact h.2)⟩
/-- A table of N values. -/
def tab (N : Nat) (f : Int → Int) : List Int := (List.range N).map fun (i : Nat) => f (i : Int)
theorem tab_length (N : Nat) (f : Int → Int) : (tab N f).length = N := by simp [tab]
theorem rd_tab (N : Nat) (f : Int → Int) (i : Int) (h0 : 0 ≤ i) (h1 : i < N) : rd (tab N f) i = f i := by
  obtain ⟨n, rfl⟩ := Int.eq_ofNat_of_zero_le h0
  rw [rd_eq _ _ (by rw [tab_length]; omega)]
  simp [tab]
theorem tab_congr (N : Nat) (f g : Int → Int) (h : ∀ i : Int, 0 ≤ i → i < N → f i = g i) : tab N f = tab N g := by
  unfold tab
  apply List.map_congr_left
  intro i hi
  exact h i (by omega) (by have := List.mem_range.1 hi; omega)
theorem tab_set (N : Nat) (f : Int → Int) (i : Int) (v : Int) (h0 : 0 ≤ i) : (tab N f).set i.toNat v = tab N (fun j => if j = i then v else f j) := by
  obtain ⟨n, rfl⟩ := Int.eq_ofNat_of_zero_le h0
  apply List.ext_getElem?
  intro j
  unfold tab
  by_cases hj : j < N
  · by_cases e : n = j
    · subst e
      simp [hj]
    · rw [List.getElem?_set_ne (by simpa using e)]
      simp [hj]
      omega
  · rw [List.getElem?_eq_none (by simp; omega), List.getElem?_eq_none (by simp; omega)]
/-- How many ways there are to make s of some of the pieces. -/
def cnt : List Int → Int → Int
  | [], s => if s = 0 then 1 else 0
  | x :: t, s => cnt t s + cnt t (s - x)
theorem cnt_snoc (l : List Int) (n s : Int) : cnt (l ++ [n]) s = cnt l s + cnt l (s - n) := by
  induction l generalizing s with
  | nil => simp [cnt]
  | cons x t ih =>
    simp only [List.cons_append, cnt, ih]
    rw [show s - x - n = s - n - x by omega]; omega
theorem cnt_nonneg (l : List Int) (s : Int) : 0 ≤ cnt l s := by
  induction l generalizing s with
  | nil => unfold cnt; split <;> omega
  | cons x t ih => have h1 := ih s; have h2 := ih (s - x); unfold cnt; omega
theorem cnt_le (l : List Int) (s : Int) : cnt l s ≤ 2 ^ l.length := by
  induction l generalizing s with
  | nil => unfold cnt; split <;> simp
  | cons x t ih =>
    have h1 := ih s; have h2 := ih (s - x)
    unfold cnt
    rw [List.length_cons, Int.pow_succ]; omega
theorem cnt_neg (l : List Int) (hl : ∀ x ∈ l, 0 ≤ x) (s : Int) (h : s < 0) : cnt l s = 0 := by
  induction l generalizing s with
  | nil => unfold cnt; rw [if_neg (by omega)]
  | cons x t ih =>
    have hx := hl x (by simp)
    unfold cnt
    rw [ih (fun y hy => hl y (by simp [hy])) s h, ih (fun y hy => hl y (by simp [hy])) (s - x) (by omega)]; rfl
theorem sum_nonneg (l : List Int) (hl : ∀ x ∈ l, 0 ≤ x) : 0 ≤ l.sum := by
  induction l with
  | nil => simp
  | cons x t ih =>
    have hx := hl x (by simp)
    have := ih (fun y hy => hl y (by simp [hy]))
    rw [List.sum_cons]; omega
theorem cnt_above (l : List Int) (hl : ∀ x ∈ l, 0 ≤ x) (s : Int) (h : l.sum < s) : cnt l s = 0 := by
  induction l generalizing s with
  | nil => unfold cnt; rw [if_neg (by simp at h; omega)]
  | cons x t ih =>
    have hx := hl x (by simp)
    rw [List.sum_cons] at h
    unfold cnt
    rw [ih (fun y hy => hl y (by simp [hy])) s (by omega), ih (fun y hy => hl y (by simp [hy])) (s - x) (by omega)]; rfl
theorem pow_le_20 {n : Nat} (h : n ≤ 20) : (2 : Int) ^ n ≤ 1048576 := by
  have : (2 : Nat) ^ n ≤ 2 ^ 20 := Nat.pow_le_pow_right (by omega) h
  have e : ((2 : Int) ^ n) = ((2 ^ n : Nat) : Int) := by simp
  rw [e]; omega
theorem sum_le (l : List Int) (B : Int) (hl : ∀ x ∈ l, x ≤ B) : l.sum ≤ l.length * B := by
  induction l with
  | nil => simp
  | cons x t ih =>
    have hx := hl x (by simp)
    have := ih (fun y hy => hl y (by simp [hy]))
    rw [List.sum_cons, List.length_cons]
    have e : ((t.length + 1 : Nat) : Int) * B = t.length * B + B := by
      rw [show ((t.length + 1 : Nat) : Int) = (t.length : Int) + 1 by omega, Int.add_mul]; omega
    omega
/-- Up to where all sums can be made of pieces in order. -/
def runL : List Int → Int → Int
  | [], a => a
  | x :: t, a => if x > a + 1 then a else runL t (a + x)
/-- What a clue of a kind tells of pieces. -/
def pzV (kind a : Int) (l : List Int) : Int :=
  if kind = 0 then (l.length : Int) else if kind = 1 then l.sum else if kind = 2 then (if cnt l a < 1 then cnt l a else 1) else if kind = 3 then runL l 0 else if kind = 4 then cnt l a else (l.count a : Int)
/-- The integers in order. -/
def sortL (l : List Int) : List Int := l.mergeSort fun x y => decide (x ≤ y)
theorem perm_sorted_eq : ∀ (a b : List Int), a.Perm b → a.Pairwise (fun x y => x ≤ y) → b.Pairwise (fun x y => x ≤ y) → a = b
  | [], b, h, _, _ => (List.nil_perm.1 h).symm
  | x :: a, [], h, _, _ => absurd h.length_eq (by simp)
  | x :: a, y :: b, h, ha, hb => by
    rw [List.pairwise_cons] at ha hb
    have hy : y ∈ x :: a := h.symm.subset (by simp)
    have hx : x ∈ y :: b := h.subset (by simp)
    have e : x = y := by
      rcases List.mem_cons.1 hy with e1 | e1
      · exact e1.symm
      · rcases List.mem_cons.1 hx with e2 | e2
        · exact e2
        · have := ha.1 y e1; have := hb.1 x e2; omega
    subst e
    rw [perm_sorted_eq a b (List.Perm.cons_inv h) ha.2 hb.2]
theorem sortL_perm (l : List Int) : (sortL l).Perm l := List.mergeSort_perm l _
theorem sortL_sorted (l : List Int) : (sortL l).Pairwise (fun x y => x ≤ y) := by
  have h := List.pairwise_mergeSort (le := fun x y : Int => decide (x ≤ y)) (fun a b c h1 h2 => by simp at *; omega) (fun a b => by simp; omega) l
  exact h.imp (fun h => of_decide_eq_true h)
theorem sortL_length (l : List Int) : (sortL l).length = l.length := (sortL_perm l).length_eq
/-- The pieces along a chain. -/
def partsL (links : Int) : List Int → Int → List Int
  | [], n => if n < links then [links - n] else []
  | c :: s, n => if n < c then (c - n) :: 1 :: partsL links s (c + 1) else 1 :: partsL links s (c + 1)
theorem partsL_length (links : Int) : ∀ (s : List Int) (n : Int), (partsL links s n).length ≤ 2 * s.length + 1
  | [], n => by rw [partsL]; split <;> simp
  | c :: s, n => by
    have := partsL_length links s (c + 1)
    rw [partsL]
    split <;> simp <;> omega
theorem partsL_pos (links : Int) (hl : 1 ≤ links) (s : List Int) : 0 < (partsL links s 0).length := by
  cases s with
  | nil => rw [partsL, if_pos (by omega)]; simp
  | cons c s => rw [partsL]; split <;> simp
theorem partsL_ge (links : Int) : ∀ (s : List Int) (n : Int), (∀ x ∈ partsL links s n, 1 ≤ x)
  | [], n, x, hx => by
    rw [partsL] at hx
    split at hx
    · simp at hx; omega
    · simp at hx
  | c :: s, n, x, hx => by
    have := partsL_ge links s (c + 1)
    rw [partsL] at hx
    split at hx
    · simp at hx
      rcases hx with h | h | h
      · omega
      · omega
      · exact this x h
    · simp at hx
      rcases hx with h | h
      · omega
      · exact this x h
theorem partsL_le (links : Int) (hl : links ≤ 1000) : ∀ (s : List Int) (n : Int), 0 ≤ n → (∀ x ∈ s, 0 ≤ x ∧ x ≤ 1000) → (∀ x ∈ partsL links s n, x ≤ 1000)
  | [], n, hn, hs, x, hx => by
    rw [partsL] at hx
    split at hx
    · simp at hx; omega
    · simp at hx
  | c :: s, n, hn, hs, x, hx => by
    have hc := hs c (by simp)
    have := partsL_le links hl s (c + 1) (by omega) (fun y hy => hs y (by simp [hy]))
    rw [partsL] at hx
    split at hx
    · simp at hx
      rcases hx with h | h | h
      · omega
      · omega
      · exact this x h
    · simp at hx
      rcases hx with h | h
      · omega
      · exact this x h
def cutsB (a : Int) (l : List Int) : Bool := inB a 1 1000 && (decide (l.length ≤ 9) && ((l.all fun x => inB x 0 (a - 1)) && risesB l))
theorem cutsB_in {a : Int} {l : List Int} (h : cutsB a l = true) : 1 ≤ a ∧ a ≤ 1000 ∧ l.length ≤ 9 ∧ ∀ x ∈ l, 0 ≤ x ∧ x ≤ a - 1 := by
  unfold cutsB inB at h
  simp at h
  exact ⟨h.1.1, h.1.2, h.2.1, h.2.2.1⟩
theorem cutsB_in' {a : Int} {l : List Int} (h : cutsB a l = true) : ∀ x ∈ l, 0 ≤ x ∧ x ≤ 1000 := fun x hx => by
  obtain ⟨_, h2, _, h4⟩ := cutsB_in h
  have := h4 x hx; omega
theorem setL (p : List (List Int)) (x y : List Int) (s : List (List Int)) : (p ++ x :: s).set (p.length : Int).toNat y = p ++ y :: s := by
  rw [Int.toNat_natCast, List.set_append_right _ _ (Nat.le_refl _)]; simp
theorem rdL_app (p : List (List Int)) (x : List Int) (s : List (List Int)) : rd_L1 (p ++ x :: s) (p.length : Int) = x := by simp [rd_L1, List.getD_eq_getElem?_getD]
theorem laws_eqIntSS.same_l (s : List (List Int)) : ∀ (p : List (List Int)), (∀ l ∈ s, l.length ≤ 1048576) → p.length + s.length ≤ 9223372036854775806 → Ev (fun k => laws_eqIntSS.l0 k (p ++ s) (p ++ s) (p.length : Int)) true := by
  induction s with
  | nil =>
    intro p hs hp
    refine Ev.step (f := fun _ => some true) (fun k => ?_) (Ev.val rfl)
    rw [laws_eqIntSS.l0, if_neg (by simp)]
  | cons l s ih =>
    intro p hs hp
    simp only [List.length_cons] at hp
    have hl := hs l (by simp)
    have h := ih (p ++ [l]) (fun x hx => hs x (by simp [hx])) (by simp; omega)
    have he := laws_eqIntS.ev l l (by omega)
    rw [decide_eq_true rfl] at he
    refine Ev.step (f := fun k => (laws_eqIntS.f k l l).bind fun t => if t = true then laws_eqIntSS.l0 k (p ++ l :: s) (p ++ l :: s) (wrap64 ((p.length : Int) + 1)) else some false) (fun k => ?_) (Ev.bind he (Ev.pos rfl ?_))
    · rw [laws_eqIntSS.l0, if_pos (by simp <;> omega), if_pos (by omega), if_pos (by simp <;> omega), rdL_app]
    · rw [w64 (by omega) (by omega)]
      simpa using h
theorem laws_eqIntSS.same (L : List (List Int)) (hs : ∀ l ∈ L, l.length ≤ 1048576) (hl : L.length ≤ 9223372036854775806) : Ev (fun k => laws_eqIntSS.f k L L) true :=
  Ev.pos rfl (laws_eqIntSS.same_l L [] hs (by simpa using hl))
def szL : List (List Int) → Int → Int
  | [], a => a
  | l :: s, a => if a < (l.length : Int) then -1 else szL s (a - l.length)
def szC (L : List (List Int)) : Int := if 1048576 < (L.length : Int) then -1 else szL L (1048576 - L.length)
theorem szL_ge : ∀ (s : List (List Int)) (a : Int), 0 ≤ a → -1 ≤ szL s a
  | [], a, h => by rw [szL]; omega
  | l :: s, a, h => by
    rw [szL]; split
    · omega
    · exact szL_ge s _ (by omega)
theorem szL_in : ∀ (s : List (List Int)) (a : Int), 0 ≤ a → 0 ≤ szL s a → ∀ l ∈ s, (l.length : Int) ≤ a
  | [], a, _, _, l, hl => by cases hl
  | l :: s, a, h, h2, x, hx => by
    rw [szL] at h2
    split at h2
    · omega
    · rename_i c
      rcases List.mem_cons.1 hx with e | e
      · rw [e]; omega
      · have := szL_in s (a - l.length) (by omega) h2 x e; omega
theorem szC_in {L : List (List Int)} (h : ¬ szC L < 0) : L.length ≤ 1048576 ∧ ∀ l ∈ L, l.length ≤ 1048576 := by
  unfold szC at h
  split at h
  · omega
  · exact ⟨by omega, fun l hl => by have := szL_in L (1048576 - L.length) (by omega) (by omega) l hl; omega⟩
theorem laws_szIntSS.ev_l (s : List (List Int)) : ∀ (p : List (List Int)) (a : Int), (∀ l ∈ s, l.length ≤ 9223372036854775807) → p.length + s.length ≤ 1048576 → 0 ≤ a → a ≤ 1048576 → Ev (fun k => laws_szIntSS.l0 k (p ++ s) a (p.length : Int)) (szL s a) := by
  induction s with
  | nil =>
    intro p a hs hp h0 h1
    refine Ev.step (f := fun _ => some a) (fun k => ?_) (Ev.val (by rw [szL]))
    rw [laws_szIntSS.l0, if_neg (by simp)]
  | cons l s ih =>
    intro p a hs hp h0 h1
    simp only [List.length_cons] at hp
    have hv := laws_szIntS.val l a (hs l (by simp)) h0 h1
    by_cases c : a < (l.length : Int)
    · refine Ev.step (f := fun _ => some (-1)) (fun k => ?_) (Ev.val (by rw [szL, if_pos c]))
      rw [laws_szIntSS.l0, if_pos (by simp <;> omega), if_pos (by omega), show rd_L1 (p ++ l :: s) (p.length : Int) = l by simp [rd_L1, List.getD_eq_getElem?_getD], hv, Option.bind_some, if_pos c, if_pos (by omega)]
    · have h := ih (p ++ [l]) (a - l.length) (fun x hx => hs x (by simp [hx])) (by simp; omega) (by omega) (by omega)
      refine Ev.step (f := fun k => laws_szIntSS.l0 k ((p ++ [l]) ++ s) (a - l.length) ((p ++ [l]).length : Int)) (fun k => ?_) (Ev.eq h (by rw [szL, if_neg c]))
      rw [laws_szIntSS.l0, if_pos (by simp <;> omega), if_pos (by omega), show rd_L1 (p ++ l :: s) (p.length : Int) = l by simp [rd_L1, List.getD_eq_getElem?_getD], hv, Option.bind_some, if_neg c, if_neg (by omega), w64 (by omega) (by omega)]
      simp
theorem laws_szCards.ev (n : Int) (L : List (List Int)) (hL : L.length ≤ 9223372036854775807) (hs : ∀ l ∈ L, l.length ≤ 9223372036854775807) : Ev (fun k => laws_szCards.f k n L 1048576) (szC L) := by
  unfold laws_szCards.f laws_szIntSS.f
  rw [w64 (by omega) (by omega)]
  by_cases c : 1048576 < (L.length : Int)
  · refine Ev.bind (Ev.pos (by omega) (Ev.val rfl)) (Ev.pos (by omega) (Ev.val (by rw [szC, if_pos c])))
  · refine Ev.bind (Ev.neg (by omega) (laws_szIntSS.ev_l L [] _ hs (by simp; omega) (by omega) (by omega))) ?_
    have hg := szL_ge L (1048576 - L.length) (by omega)
    refine Ev.ite (fun d => Ev.val (by rw [szC, if_neg c]; omega)) (fun d => Ev.val (by rw [szC, if_neg c]))
theorem laws_toIntSS.ev_l (s : List (List Int)) : ∀ (p : List (List Int)), (∀ l ∈ s, l.length ≤ 1048576) → p.length + s.length ≤ 1048576 → Ev (fun k => laws_toIntSS.l0 k (p ++ s) (p ++ List.replicate s.length []) (p.length : Int)) (p ++ s) := by
  induction s with
  | nil =>
    intro p hs hp
    refine Ev.step (f := fun _ => some (p ++ List.replicate 0 [])) (fun k => ?_) (Ev.val (by simp))
    rw [laws_toIntSS.l0, if_neg (by simp)]; rfl
  | cons l s ih =>
    intro p hs hp
    simp only [List.length_cons] at hp
    have hl := hs l (by simp)
    have h := ih (p ++ [l]) (fun x hx => hs x (by simp [hx])) (by simp; omega)
    refine Ev.step (f := fun k => (laws_toIntS.f k l).bind fun t => laws_toIntSS.l0 k (p ++ l :: s) ((p ++ [] :: List.replicate s.length []).set (p.length : Int).toNat t) (wrap64 ((p.length : Int) + 1))) (fun k => ?_) (Ev.bind (laws_toIntS.ev l (by omega)) ?_)
    · rw [laws_toIntSS.l0, if_pos (by simp <;> omega), if_pos (by omega), show rd_L1 (p ++ l :: s) (p.length : Int) = l by simp [rd_L1, List.getD_eq_getElem?_getD]]
      congr 1; funext t
      rw [if_pos (by simp <;> omega)]; rfl
    · rw [setL, w64 (by omega) (by omega)]
      simpa using h
theorem laws_toCards.ev (n : Int) (L : List (List Int)) (hL : L.length ≤ 1048576) (hs : ∀ l ∈ L, l.length ≤ 1048576) : Ev (fun k => laws_toCards.f k n L) (n, L) := by
  refine Ev.bind (a := L) ?_ (Ev.val rfl)
  refine Ev.pos (by omega) (Ev.pos (by simp; omega) ?_)
  have h := laws_toIntSS.ev_l L [] hs (by simpa using hL)
  simpa using h
theorem laws_eqCards.same (n : Int) (L : List (List Int)) (hs : ∀ l ∈ L, l.length ≤ 1048576) (hL : L.length ≤ 1048576) : Ev (fun k => laws_eqCards.f k n L n L) true :=
  Ev.pos rfl (Ev.bind (laws_eqIntSS.same L hs (by omega)) (Ev.pos rfl (Ev.val rfl)))
def cardB (n : Int) (l : List Int) : Bool := (l.all fun x => inB x 0 (n - 1)) && risesB l
def cardsB (n : Int) (L : List (List Int)) : Bool := inB n 1 128 && (decide (L.length ≤ 12) && L.all (cardB n))
theorem cardsB_in {n : Int} {L : List (List Int)} (h : cardsB n L = true) : 1 ≤ n ∧ n ≤ 128 ∧ L.length ≤ 12 ∧ L.all (cardB n) = true := by
  unfold cardsB inB at h
  simp only [Bool.and_eq_true, decide_eq_true_eq] at h
  exact ⟨h.1.1, h.1.2, h.2.1, h.2.2⟩
theorem spec_caGood.ev_l (n : Int) (h1 : 1 ≤ n) (h2 : n ≤ 128) (s : List (List Int)) : ∀ (p : List (List Int)), (∀ l ∈ s, l.length ≤ 1048576) → p.length + s.length ≤ 1048576 → Ev (fun k => spec_caGood.l0 k (p ++ s) ((p ++ s).length : Int) (p.length : Int) n (p ++ s)) (s.all (cardB n)) := by
  induction s with
  | nil =>
    intro p hs hp
    refine Ev.step (f := fun _ => some true) (fun k => ?_) (Ev.val rfl)
    rw [spec_caGood.l0, if_neg (by simp)]
  | cons l s ih =>
    intro p hs hp
    simp only [List.length_cons] at hp
    have hl := hs l (by simp)
    have hr := spec_l1Rising.ev l 0 (n - 1) (by omega)
    have h := ih (p ++ [l]) (fun x hx => hs x (by simp [hx])) (by simp; omega)
    refine Ev.step (f := fun k => (spec_l1Rising.f k l 0 (n - 1)).bind fun t => if t = true then spec_caGood.l0 k ((p ++ [l]) ++ s) (((p ++ [l]) ++ s).length : Int) ((p ++ [l]).length : Int) n ((p ++ [l]) ++ s) else some false) (fun k => ?_) (Ev.bind hr (Ev.ite (fun c => Ev.eq h ?_) (fun c => Ev.val ?_)))
    · rw [spec_caGood.l0, if_pos (by simp <;> omega), if_pos (by omega), if_pos (by simp <;> omega), show rd_L1 (p ++ l :: s) (p.length : Int) = l by simp [rd_L1, List.getD_eq_getElem?_getD], w64 (n := n - 1) (by omega) (by omega), w64 (by omega) (by omega)]
      simp
    · rw [List.all_cons, show cardB n l = true from c, Bool.true_and]
    · rw [Bool.not_eq_true] at c
      rw [List.all_cons, show cardB n l = false from c, Bool.false_and]
theorem spec_caGood.ev (n : Int) (L : List (List Int)) (hL : L.length ≤ 1048576) (hs : ∀ l ∈ L, l.length ≤ 1048576) : Ev (fun k => spec_caGood.f k n L) (cardsB n L) := by
  refine Ev.bindc (spec_l1In.valB n 1 128) (Ev.ite (fun c => ?_) (fun c => ?_))
  · have c' : 1 ≤ n ∧ n ≤ 128 := by unfold inB at c; simpa using c
    apply Ev.step
    · intro k; rw [spec_caGood.j0]
    by_cases d : L.length ≤ 12
    · refine Ev.neg (by simp; omega) (Ev.eq (spec_caGood.ev_l n c'.1 c'.2 L [] hs (by simpa using hL)) ?_)
      rw [cardsB, c, decide_eq_true d, Bool.true_and, Bool.true_and]
    · refine Ev.pos (by simp; omega) (Ev.val ?_)
      rw [cardsB, decide_eq_false d, Bool.false_and, Bool.and_false]
  · apply Ev.step
    · intro k; rw [spec_caGood.j0]
    refine Ev.pos rfl (Ev.val ?_)
    rw [Bool.not_eq_true] at c
    rw [cardsB, c, Bool.false_and]
theorem impl_isCard.ev (n : Int) (h1 : 1 ≤ n) (h2 : n ≤ 128) (l : List Int) (hl : l.length ≤ 1048576) : Ev (fun k => impl_isCard.f k n l) (cardB n l) := by
  unfold impl_isCard.f
  rw [w64 (by omega) (by omega)]
  refine Ev.bindc (impl_areWithin.val l 0 (n - 1)) (Ev.ite (fun c => ?_) (fun c => Ev.val ?_))
  · refine Ev.bind (impl_rises.ev l (by omega)) (Ev.val ?_)
    unfold cardB inB
    rw [c, Bool.true_and]
  · rw [Bool.not_eq_true] at c
    unfold cardB inB
    rw [c, Bool.false_and]
theorem ev_allc {α β : Type} (g : Nat → α → Option β) (v : α → β) : ∀ (L : List α), (∀ l ∈ L, Ev (fun k => g k l) (v l)) → ∃ K, ∀ k, K ≤ k → ∀ l ∈ L, g k l = some (v l)
  | [], _ => ⟨0, fun _ _ l hl => by cases hl⟩
  | a :: L, h => by
    obtain ⟨K1, h1⟩ := ev_allc g v L (fun l hl => h l (by simp [hl]))
    obtain ⟨K2, h2⟩ := h a (by simp)
    refine ⟨max K1 K2, fun k hk l hl => ?_⟩
    rcases List.mem_cons.1 hl with e | e
    · rw [e]; exact h2 k (Nat.le_trans (Nat.le_max_right _ _) hk)
    · exact h1 k (Nat.le_trans (Nat.le_max_left _ _) hk) l e
theorem impl_AreCards.ev (n : Int) (L : List (List Int)) (hs : ∀ l ∈ L, l.length ≤ 1048576) : Ev (fun k => impl_AreCards.f k n L) (cardsB n L) := by
  unfold impl_AreCards.f
  refine Ev.ite (fun c => ?_) (fun c => Ev.val ?_)
  · obtain ⟨K, h⟩ := ev_allc (fun k l => impl_isCard.f k n l) (cardB n) L (fun l hl => impl_isCard.ev n c.1 c.2.1 l (hs l hl))
    refine ⟨K, fun k hk => ?_⟩
    show (if L.all (fun l => (impl_isCard.f k n l).isSome) = true then some (L.all fun l => (impl_isCard.f k n l).getD false) else none) = _
    rw [if_pos (List.all_eq_true.2 (fun l hl => by rw [h k hk l hl]; rfl)), cardsB]
    have e : (L.all fun l => (impl_isCard.f k n l).getD false) = L.all (cardB n) := by
      rw [Bool.eq_iff_iff, List.all_eq_true, List.all_eq_true]
      exact ⟨fun q l hl => by have := q l hl; rw [h k hk l hl] at this; exact this, fun q l hl => by rw [h k hk l hl]; exact q l hl⟩
    rw [e]
    unfold inB
    rw [decide_eq_true c.1, decide_eq_true c.2.1, decide_eq_true c.2.2]; rfl
  · symm
    rw [Bool.eq_false_iff]
    intro h
    have := cardsB_in h
    exact c ⟨this.1, this.2.1, this.2.2.1⟩
/-! ### Numbers below 100 as texts, and texts joined -/
def numL (n : Int) : List UInt8 := Lib.decDigits n.toNat
theorem numL_small {n : Int} (h0 : 0 ≤ n) (h1 : n < 10) : numL n = [UInt8.ofNat (48 + n.toNat)] := by
  unfold numL; rw [Lib.decDigits, dif_pos (by omega)]
theorem numL_two {n : Int} (h0 : 10 ≤ n) : numL n = numL (n / 10) ++ [UInt8.ofNat (48 + n.toNat % 10)] := by
  unfold numL
  rw [Lib.decDigits, dif_neg (by omega), show (n / 10).toNat = n.toNat / 10 by omega]
theorem strOfNums_one {x : Int} : (strOfNums [x]).data.toList = [UInt8.ofNat x.toNat] := by
  simp [strOfNums]
theorem bytes_eq {a b : ByteArray} (h : a.data.toList = b.data.toList) : a = b := by
  cases a; cases b; simp only [ByteArray.mk.injEq]; exact Array.toList_inj.1 h
theorem bytes_app (a b : ByteArray) : (a ++ b).data.toList = a.data.toList ++ b.data.toList := by simp
theorem bytes_size (a : ByteArray) : a.size = a.data.toList.length := rfl
theorem numL_length {n : Int} (h0 : 0 ≤ n) (h1 : n < 1000) : (numL n).length ≤ 3 := by
  by_cases c : n < 10
  · rw [numL_small h0 c]; simp
  · rw [numL_two (by omega)]
    by_cases d : n / 10 < 10
    · rw [numL_small (n := n / 10) (by omega) d]; simp
    · rw [numL_two (n := n / 10) (by omega), numL_small (n := n / 10 / 10) (by omega) (by omega)]; simp
theorem spec_l1Num.up {n : Int} (h0 : 10 ≤ n) (h1 : n < 1000) (h : Ev (fun k => spec_l1Num.f k (n / 10)) ⟨(numL (n / 10)).toArray⟩) : Ev (fun k => spec_l1Num.f k n) ⟨(numL n).toArray⟩ := by
  have hd : Int.tdiv n 10 = n / 10 := by rw [Int.tdiv_eq_ediv_of_nonneg (by omega)]
  have hm : Int.tmod n 10 = n % 10 := Int.tmod_eq_emod_of_nonneg (by omega)
  refine Ev.step (f := fun k => (spec_l1Num.f k (n / 10)).bind fun t119 => ((some (([(wrap64 (48 + (n % 10))) % 256] : List Int) : List Int)).bind fun y120 => (if t119.size + (strOfNums y120).size ≤ 9223372036854775807 then (some (t119 ++ (strOfNums y120))) else (none)))) (fun k => by rw [spec_l1Num.f, if_neg (by omega), hd, hm, w64 (n := n / 10) (by omega) (by omega)]) ?_
  refine Ev.bind h (Ev.bindc rfl (Ev.pos ?_ (Ev.val (bytes_eq ?_))))
  · rw [bytes_size, bytes_size, strOfNums_one]
    have := numL_length (n := n / 10) (by omega) (by omega)
    simp only [List.length_cons, List.length_nil]
    omega
  · rw [bytes_app, strOfNums_one, numL_two (n := n) (by omega), w64 (by omega) (by omega)]
    simp only [List.append_cancel_left_eq, List.cons.injEq, and_true]
    congr 1; omega
theorem spec_l1Num.ev {n : Int} (h0 : 0 ≤ n) (h1 : n < 1000) : Ev (fun k => spec_l1Num.f k n) ⟨(numL n).toArray⟩ := by
  have base : ∀ m : Int, 0 ≤ m → m < 10 → Ev (fun k => spec_l1Num.f k m) ⟨(numL m).toArray⟩ := fun m g0 g1 => by
    refine Ev.step (f := fun _ => some (strOfNums [(wrap64 (48 + m)) % 256])) (fun k => by rw [spec_l1Num.f, if_pos g1]) (Ev.val (bytes_eq ?_))
    rw [strOfNums_one, numL_small g0 g1, w64 (by omega) (by omega)]
    simp only [List.cons.injEq, and_true]
    congr 1; omega
  by_cases c : n < 10
  · exact base n h0 c
  · refine spec_l1Num.up (by omega) h1 ?_
    by_cases d : n / 10 < 10
    · exact base _ (by omega) d
    · exact spec_l1Num.up (by omega) (by omega) (base _ (by omega) (by omega))
theorem join_snoc (sep : List UInt8) : ∀ (X : List (List UInt8)) (y : List UInt8), X ≠ [] → Lib.join (X ++ [y]) sep = Lib.join X sep ++ sep ++ y
  | [], _, h => absurd rfl h
  | [x], y, _ => by
    rw [List.singleton_append, Lib.join_cons, Lib.join_one]
    simp [Lib.joinTail]
  | x :: z :: r, y, _ => by
    rw [List.cons_append, Lib.join_cons, Lib.join_cons]
    simp [Lib.joinTail]
theorem impl_joined.ev_l (sep : ByteArray) (hs : sep.size ≤ 10) : ∀ (s p : List Int), p.length + s.length ≤ 1000 → (∀ x ∈ p ++ s, (0 ≤ x ∧ x < 1000) ∧ strconv_Itoa.f x = some ⟨(numL x).toArray⟩) → Ev (fun k => impl_joined.l0 k sep (p.map fun x => (⟨(numL x).toArray⟩ : ByteArray)) (p ++ s) ((p ++ s).length : Int) (p.length : Int)) ⟨(Lib.join ((p ++ s).map numL) sep.data.toList).toArray⟩
  | [], p, hp, hx => by
    rw [List.append_nil] at hx ⊢
    have e : (p.map fun x => (⟨(numL x).toArray⟩ : ByteArray)).map (·.data.toList) = p.map numL := by rw [List.map_map]; exact List.map_congr_left (fun x _ => by simp)
    have hj : (Lib.join (p.map numL) sep.data.toList).length ≤ 100000 := by
      have key : ∀ q : List Int, (∀ x ∈ q, (0 ≤ x ∧ x < 1000) ∧ strconv_Itoa.f x = some ⟨(numL x).toArray⟩) → (Lib.lens (q.map numL)) ≤ 3 * q.length := fun q => by
        induction q with
        | nil => intro _; simp [Lib.lens]
        | cons y q ih => intro h; have := ih (fun z hz => h z (by simp [hz])); have := numL_length (h y (by simp)).1.1 (h y (by simp)).1.2; simp [Lib.lens] at *; omega
      cases p with
      | nil => simp [Lib.join_nil]
      | cons y q =>
        rw [List.map_cons, Lib.join_length]
        have h1 := key (y :: q) hx
        rw [List.map_cons] at h1
        have h2 : sep.data.toList.length = sep.size := rfl
        rw [List.length_map, h2]
        simp only [List.length_cons, List.length_nil] at h1 hp
        have : sep.size * q.length ≤ 10 * q.length := Nat.mul_le_mul_right _ hs
        omega
    refine Ev.step (f := fun _ => (strings_Join.f (p.map fun x => (⟨(numL x).toArray⟩ : ByteArray)) sep).bind fun t171 => some t171) (fun k => by rw [impl_joined.l0, if_neg (by omega)]) ?_
    refine Ev.bindc (x := ⟨(Lib.join (p.map numL) sep.data.toList).toArray⟩) ?_ (Ev.val rfl)
    unfold strings_Join.f
    rw [e, if_pos ⟨by simp at hp ⊢; omega, by omega⟩]
  | y :: s, p, hp, hx => by
    simp only [List.length_cons] at hp
    have hy := hx y (by simp)
    have h := impl_joined.ev_l sep hs s (p ++ [y]) (by simp; omega) (by simpa using hx)
    have e1 : rd (p ++ y :: s) (p.length : Int) = y := rd_app p y s
    refine Ev.step (f := fun k => impl_joined.l0 k sep ((p ++ [y]).map fun x => (⟨(numL x).toArray⟩ : ByteArray)) ((p ++ [y]) ++ s) (((p ++ [y]) ++ s).length : Int) ((p ++ [y]).length : Int)) (fun k => ?_) (Ev.eq h (by simp))
    rw [impl_joined.l0, if_pos (by simp; omega), if_pos (by omega), if_pos (by simp; omega), e1]
    rw [hy.2, Option.bind_some, if_pos (by simp; omega), w64 (by omega) (by omega)]
    simp
theorem impl_joined.ev (sep : ByteArray) (hs : sep.size ≤ 10) (l : List Int) (hl : l.length ≤ 1000) (hx : ∀ x ∈ l, (0 ≤ x ∧ x < 1000) ∧ strconv_Itoa.f x = some ⟨(numL x).toArray⟩) : Ev (fun k => impl_joined.f k l sep) ⟨(Lib.join (l.map numL) sep.data.toList).toArray⟩ := impl_joined.ev_l sep hs l [] (by simpa using hl) (by simpa using hx)
theorem rises_count : ∀ (l : List Int) (a b : Int), l.Pairwise (fun x y => x < y) → (∀ x ∈ l, a ≤ x ∧ x ≤ b) → (l.length : Int) ≤ max 0 (b - a + 1)
  | [], _, _, _, _ => by simp; omega
  | x :: s, a, b, h, hx => by
    rw [List.pairwise_cons] at h
    have ih := rises_count s (x + 1) b h.2 (fun y hy => ⟨by have := h.1 y hy; omega, (hx y (by simp [hy])).2⟩)
    have := hx x (by simp)
    simp only [List.length_cons]; omega
theorem itoa_num {x : Int} (h : 0 ≤ x ∧ x < 1000) : strconv_Itoa.f x = some ⟨(numL x).toArray⟩ := by
  unfold strconv_Itoa.f
  rw [if_pos (by omega)]
  unfold Lib.itoa numL
  rw [if_neg (by omega)]
def wordL (l : List Int) : List UInt8 := if l = [] then [45] else Lib.join (l.map numL) [46]
def inC (l : List Int) : Prop := l.length ≤ 128 ∧ ∀ x ∈ l, 0 ≤ x ∧ x < 1000
theorem lens_num (q : List Int) (h : ∀ x ∈ q, 0 ≤ x ∧ x < 1000) : Lib.lens (q.map numL) ≤ 3 * q.length := by
  induction q with
  | nil => simp [Lib.lens]
  | cons y q ih => have := ih (fun z hz => h z (by simp [hz])); have := numL_length (h y (by simp)).1 (h y (by simp)).2; simp [Lib.lens] at *; omega
theorem jnum_length (q : List Int) (h : ∀ x ∈ q, 0 ≤ x ∧ x < 1000) : (Lib.join (q.map numL) [46]).length ≤ 4 * q.length := by
  have h1 := lens_num q h
  cases q with
  | nil => simp [Lib.join_nil]
  | cons y q =>
    rw [List.map_cons] at h1 ⊢
    rw [Lib.join_length]
    simp only [List.length_cons, List.length_map, List.length_nil] at h1 ⊢
    omega
theorem wordL_length {l : List Int} (h : inC l) : (wordL l).length ≤ 600 := by
  unfold wordL; split
  · simp
  · have := jnum_length l h.2; have := h.1; omega
def ctextL (L : List (List Int)) : List UInt8 := Lib.join (L.map wordL) [44]
theorem ctextL_length (L : List (List Int)) (h : ∀ l ∈ L, inC l) : (ctextL L).length ≤ 601 * L.length := by
  have key : ∀ q : List (List Int), (∀ c ∈ q, inC c) → Lib.lens (q.map wordL) ≤ 600 * q.length := fun q => by
    induction q with
    | nil => intro _; simp [Lib.lens]
    | cons y q ih => intro h; have := ih (fun z hz => h z (by simp [hz])); have := wordL_length (h y (by simp)); simp [Lib.lens] at *; omega
  unfold ctextL
  cases L with
  | nil => simp [Lib.join_nil]
  | cons y q =>
    have h1 := key (y :: q) h
    rw [List.map_cons] at h1 ⊢
    rw [Lib.join_length]
    simp only [List.length_cons, List.length_map, List.length_nil] at h1 ⊢
    omega
theorem impl_Cards_text.ev_l (n : Int) (hn : 0 ≤ n ∧ n < 1000) (M : List (List Int)) : ∀ (s p : List (List Int)), p.length + s.length ≤ 100 → (∀ c ∈ p ++ s, inC c) → Ev (fun k => impl_Cards_text.l0 k (p.map fun c => (⟨(wordL c).toArray⟩ : ByteArray)) (p ++ s) ((p ++ s).length : Int) (p.length : Int) n M) ⟨(numL n ++ [35] ++ ctextL (p ++ s)).toArray⟩
  | [], p, hp, hx => by
    rw [List.append_nil] at hx ⊢
    have e : (p.map fun c => (⟨(wordL c).toArray⟩ : ByteArray)).map (·.data.toList) = p.map wordL := by rw [List.map_map]; exact List.map_congr_left (fun x _ => by simp)
    have hj := ctextL_length p hx
    have hnl := numL_length hn.1 hn.2
    have zn : (⟨(numL n).toArray⟩ : ByteArray).size = (numL n).length := rfl
    have zp : (⟨(ctextL p).toArray⟩ : ByteArray).size = (ctextL p).length := rfl
    have zk : (⟨#[35]⟩ : ByteArray).size = 1 := rfl
    have hsz : ∀ a b : ByteArray, (a ++ b).size = a.size + b.size := fun a b => ByteArray.size_append
    simp only [List.length_nil, Nat.add_zero] at hp
    refine Ev.step (f := fun k => _) (fun k => by rw [impl_Cards_text.l0, if_neg (by omega)]) ?_
    refine Ev.bindc (itoa_num hn) (Ev.pos (by omega) (Ev.bindc (x := ⟨(ctextL p).toArray⟩) ?_ (Ev.pos (by simp only [hsz]; omega) (Ev.val (bytes_eq (by simp))))))
    unfold strings_Join.f
    rw [e, show (⟨#[44]⟩ : ByteArray).data.toList = [44] from rfl, if_pos ⟨by simp; omega, by unfold ctextL at hj; omega⟩]
    rfl
  | y :: s, p, hp, hx => by
    simp only [List.length_cons] at hp
    have hy := hx y (by simp)
    have h := impl_Cards_text.ev_l n hn M s (p ++ [y]) (by simp; omega) (by simpa using hx)
    have e1 : rd_L1 (p ++ y :: s) (p.length : Int) = y := rdL_app p y s
    have hlt : (p.map fun c => (⟨(wordL c).toArray⟩ : ByteArray)).length < 8796093022208 := by simp; omega
    have ew : wrap64 ((p.length : Int) + 1) = ((p ++ [y]).length : Int) := by rw [w64 (by omega) (by omega)]; simp
    have ea : p ++ y :: s = (p ++ [y]) ++ s := by simp
    refine Ev.step (f := fun k => _) (fun k => by rw [impl_Cards_text.l0, if_pos (by simp; omega), if_pos (by omega), if_pos (by simp; omega), e1, ew, ea]) ?_
    refine Ev.ite (fun c => Ev.pos hlt ?_) (fun c => ?_)
    · have hy0 : y = [] := List.eq_nil_of_length_eq_zero (by omega)
      refine Ev.eq (Ev.congr (fun k => ?_) h) (by rw [ea])
      subst hy0
      congr 1
      simp [wordL]
    · have hne : y ≠ [] := by rintro rfl; simp at c
      refine Ev.bind (impl_joined.ev (⟨#[46]⟩ : ByteArray) (by decide) y (by have := hy.1; omega) (fun x hx => ⟨hy.2 x hx, itoa_num (hy.2 x hx)⟩)) (Ev.pos hlt ?_)
      refine Ev.eq (Ev.congr (fun k => ?_) h) (by rw [ea])
      congr 1
      rw [List.map_append, List.map_cons, List.map_nil, wordL, if_neg hne]
theorem spec_caText.l1_ev (M : List (List Int)) (m i : Int) (R : ByteArray) : ∀ (s p : List Int) (B : List UInt8), p.length + s.length ≤ 1000 → (∀ x ∈ p ++ s, 0 ≤ x ∧ x < 1000) → B.length ≤ 1000000 → Ev (fun k => spec_caText.l0 k ⟨(B ++ Lib.join ((p ++ s).map numL) [46]).toArray⟩ M m (wrap64 (i + 1))) R → Ev (fun k => spec_caText.l1 k ⟨(B ++ Lib.join (p.map numL) [46]).toArray⟩ M m i (p ++ s) ((p ++ s).length : Int) (p.length : Int)) R
  | [], p, B, hp, hx, hB, h => by
    rw [List.append_nil] at h ⊢
    exact Ev.step (fun k => by rw [spec_caText.l1, if_neg (by omega)]) h
  | y :: s, p, B, hp, hx, hB, h => by
    simp only [List.length_cons] at hp
    have hy := hx y (by simp)
    have hpl := jnum_length p (fun c hc => hx c (by simp [hc]))
    have e1 : rd (p ++ y :: s) (p.length : Int) = y := rd_app p y s
    have ea : p ++ y :: s = (p ++ [y]) ++ s := by simp
    have ew : wrap64 ((p.length : Int) + 1) = ((p ++ [y]).length : Int) := by rw [w64 (by omega) (by omega)]; simp
    have ih := spec_caText.l1_ev M m i R s (p ++ [y]) B (by simp; omega) (by simpa using hx) hB (by rw [← ea]; exact h)
    have hyl := numL_length hy.1 hy.2
    have zy : (⟨(numL y).toArray⟩ : ByteArray).size = (numL y).length := rfl
    have zp : (⟨(B ++ Lib.join (p.map numL) [46]).toArray⟩ : ByteArray).size = (B ++ Lib.join (p.map numL) [46]).length := rfl
    have zk : (⟨#[46]⟩ : ByteArray).size = 1 := rfl
    have hsz : ∀ a b : ByteArray, (a ++ b).size = a.size + b.size := fun a b => ByteArray.size_append
    rw [List.length_append] at zp
    refine Ev.step (f := fun k => _) (fun k => by rw [spec_caText.l1, if_pos (by simp; omega), if_pos (by omega), if_pos (by simp; omega), e1, ew, ea]) ?_
    refine Ev.ite (fun c => Ev.pos (by omega) (Ev.bind (spec_l1Num.ev hy.1 hy.2) (Ev.pos (by simp only [hsz]; omega) ?_))) (fun c => Ev.bind (spec_l1Num.ev hy.1 hy.2) (Ev.pos (by omega) ?_))
    · refine Ev.congr (fun k => ?_) ih
      congr 1
      refine bytes_eq ?_
      have hne : p ≠ [] := by rintro rfl; simp at c
      rw [List.map_append, List.map_cons, List.map_nil, join_snoc _ _ _ (by simpa using hne)]
      simp
    · refine Ev.congr (fun k => ?_) ih
      congr 1
      refine bytes_eq ?_
      have hp0 : p = [] := List.eq_nil_of_length_eq_zero (by omega)
      subst hp0
      simp [Lib.join_nil, Lib.join_one]
theorem spec_caText.ev_l (H : List UInt8) (hH : H.length ≤ 100) : ∀ (s p : List (List Int)), p.length + s.length ≤ 100 → (∀ c ∈ p ++ s, inC c) → Ev (fun k => spec_caText.l0 k ⟨(H ++ ctextL p).toArray⟩ (p ++ s) ((p ++ s).length : Int) (p.length : Int)) ⟨(H ++ ctextL (p ++ s)).toArray⟩
  | [], p, hp, hx => by
    rw [List.append_nil]
    exact Ev.step (f := fun _ => some ⟨(H ++ ctextL p).toArray⟩) (fun k => by rw [spec_caText.l0, if_neg (by omega)]) (Ev.val rfl)
  | y :: s, p, hp, hx => by
    simp only [List.length_cons] at hp
    have hy := hx y (by simp)
    have hpl := ctextL_length p (fun c hc => hx c (by simp [hc]))
    have e1 : rd_L1 (p ++ y :: s) (p.length : Int) = y := rdL_app p y s
    have ea : p ++ y :: s = (p ++ [y]) ++ s := by simp
    have ew : wrap64 ((p.length : Int) + 1) = ((p ++ [y]).length : Int) := by rw [w64 (by omega) (by omega)]; simp
    have ih := spec_caText.ev_l H hH s (p ++ [y]) (by simp; omega) (by simpa using hx)
    have zp : (⟨(H ++ ctextL p).toArray⟩ : ByteArray).size = (H ++ ctextL p).length := rfl
    rw [List.length_append] at zp
    have hsz : ∀ a b : ByteArray, (a ++ b).size = a.size + b.size := fun a b => ByteArray.size_append
    have zk : (⟨#[44]⟩ : ByteArray).size = 1 := rfl
    -- one list, behind what stands
    have one : ∀ (B : List UInt8), B.length ≤ 900000 → H ++ ctextL (p ++ [y]) = B ++ wordL y → Ev (fun k => spec_caText.j1 k ⟨B.toArray⟩ y (p ++ y :: s) ((p ++ y :: s).length : Int) (p.length : Int)) ⟨(H ++ ctextL (p ++ y :: s)).toArray⟩ := fun B hB hw => by
      have zB : (⟨B.toArray⟩ : ByteArray).size = B.length := rfl
      refine Ev.step (f := fun k => _) (fun k => by rw [spec_caText.j1]) ?_
      refine Ev.ite (fun c => Ev.pos (by omega) ?_) (fun c => ?_)
      · have hy0 : y = [] := List.eq_nil_of_length_eq_zero (by omega)
        refine Ev.step (f := fun k => _) (fun k => by rw [spec_caText.j2]) ?_
        have h1 := spec_caText.l1_ev (p ++ y :: s) ((p ++ y :: s).length : Int) (p.length : Int) ⟨(H ++ ctextL (p ++ y :: s)).toArray⟩ y [] (B ++ [45]) (by simp [hy0]) (by simp [hy0]) (by simp; omega) (by
          rw [ew, ea]
          refine Ev.congr (fun k => ?_) ih
          congr 1
          refine bytes_eq ?_
          rw [hw]; simp [wordL, hy0, Lib.join_nil])
        refine Ev.congr (fun k => ?_) h1
        congr 1
        exact bytes_eq (by simp [Lib.join_nil])
      · have hne : y ≠ [] := by rintro rfl; simp at c
        refine Ev.step (f := fun k => _) (fun k => by rw [spec_caText.j2]) ?_
        have h1 := spec_caText.l1_ev (p ++ y :: s) ((p ++ y :: s).length : Int) (p.length : Int) ⟨(H ++ ctextL (p ++ y :: s)).toArray⟩ y [] B (by have := hy.1; simp; omega) (by simpa using hy.2) (by omega) (by
          rw [ew, ea]
          refine Ev.congr (fun k => ?_) ih
          congr 1
          refine bytes_eq ?_
          rw [hw]; simp [wordL, hne])
        refine Ev.congr (fun k => ?_) h1
        congr 1
        exact bytes_eq (by simp [Lib.join_nil])
    refine Ev.step (f := fun k => _) (fun k => by rw [spec_caText.l0, if_pos (by simp; omega), if_pos (by omega), if_pos (by simp; omega), e1]) ?_
    refine Ev.ite (fun c => Ev.pos (by omega) ?_) (fun c => ?_)
    · have hne : p ≠ [] := by rintro rfl; simp at c
      refine Ev.congr (fun k => ?_) (one (H ++ ctextL p ++ [44]) (by simp; omega) ?_)
      · congr 1 <;> exact bytes_eq (by simp)
      · unfold ctextL; rw [List.map_append, List.map_cons, List.map_nil, join_snoc _ _ _ (by simpa using hne)]; simp
    · have hp0 : p = [] := List.eq_nil_of_length_eq_zero (by omega)
      refine one (H ++ ctextL p) (by simp; omega) ?_
      subst hp0
      simp [ctextL, Lib.join_nil, Lib.join_one]
def ctextB (n : Int) (L : List (List Int)) : ByteArray × Bool := if cardsB n L = true then (⟨(numL n ++ [35] ++ ctextL L).toArray⟩, true) else (⟨#[]⟩, false)
theorem cards_inC {n : Int} {L : List (List Int)} (h : cardsB n L = true) : (0 ≤ n ∧ n < 1000) ∧ L.length ≤ 12 ∧ ∀ l ∈ L, inC l := by
  have hc := cardsB_in h
  refine ⟨⟨by omega, by omega⟩, hc.2.2.1, fun l hl => ?_⟩
  have h1 := List.all_eq_true.1 hc.2.2.2 l hl
  unfold cardB inB at h1
  simp only [Bool.and_eq_true, List.all_eq_true, decide_eq_true_eq] at h1
  have h2 := rises_count l 0 (n - 1) (pairwise_of_rises l h1.2) h1.1
  exact ⟨by omega, fun x hx => by have := h1.1 x hx; omega⟩
theorem impl_CardsText.ev (n : Int) (L : List (List Int)) (hs : ∀ l ∈ L, l.length ≤ 1048576) : Ev (fun k => impl_CardsText.f k n L) (ctextB n L) := by
  unfold impl_CardsText.f
  refine Ev.bind (impl_AreCards.ev n L hs) (Ev.ite (fun c => ?_) (fun c => Ev.val (by rw [ctextB, if_neg c])))
  have hc := cards_inC c
  exact Ev.bind (impl_Cards_text.ev_l n hc.1 L L [] (by simp; omega) (by simpa using hc.2.2)) (Ev.val (by rw [ctextB, if_pos c]; rfl))
theorem spec_CardsText.ev (n : Int) (L : List (List Int)) (hL : L.length ≤ 1048576) (hs : ∀ l ∈ L, l.length ≤ 1048576) : Ev (fun k => spec_CardsText.f k n L) (ctextB n L) := by
  unfold spec_CardsText.f
  refine Ev.bind (spec_caGood.ev n L hL hs) (Ev.ite (fun c => ?_) (fun c => Ev.val (by rw [ctextB, if_neg c])))
  have hc := cards_inC c
  have hnl := numL_length hc.1.1 hc.1.2
  have h := spec_caText.ev_l (numL n ++ [35]) (by simp; omega) L [] (by simp; omega) (by simpa using hc.2.2)
  refine Ev.bind (a := ⟨(numL n ++ [35] ++ ctextL L).toArray⟩) ?_ (Ev.val (by rw [ctextB, if_pos c]))
  unfold spec_caText.f
  refine Ev.bind (spec_l1Num.ev hc.1.1 hc.1.2) (Ev.pos (by rw [bytes_size]; simp; omega) (Ev.congr (fun k => ?_) h))
  simp only [List.nil_append, List.length_nil]
  have e : ((⟨(numL n).toArray⟩ : ByteArray) ++ (⟨#[35]⟩ : ByteArray)) = ⟨(numL n ++ [35] ++ ctextL []).toArray⟩ := bytes_eq (by simp [ctextL, Lib.join_nil])
  rw [e]; rfl
theorem FnExactCardsText : laws_FnExactCardsText.Pure := by
  intro n L _ hL hLs
  refine Ev.rounds (g := fun k => laws_FnExactCardsText.f k n L) ?_
  unfold laws_FnExactCardsText.f
  refine Ev.bind (laws_szCards.ev n L hL hLs) (Ev.ite (fun _ => Ev.val rfl) (fun hd => ?_))
  obtain ⟨h2, h3⟩ := szC_in hd
  have h1 := laws_toCards.ev n L h2 h3
  have hs := spec_CardsText.ev n L h2 h3
  have hi := impl_CardsText.ev n L h3
  have heP := laws_eqCards.same n L h3 h2
  exact Ev.bind h1 (Ev.bind hs (Ev.bind h1 (Ev.bind hi (Ev.pos rfl (Ev.neg (by simp) (Ev.bind h1 (Ev.bind heP (Ev.pos rfl (Ev.val rfl)))))))))
end Go.Proofs.YthklbgllgeigdaaDoor.Pure
