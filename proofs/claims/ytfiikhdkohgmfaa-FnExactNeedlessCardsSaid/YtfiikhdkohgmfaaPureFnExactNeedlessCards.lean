/- For all arguments within the row's reach the law FnExactNeedlessCards answers true.
No further conditions. -/
import Derived.Test.YtfiikhdkohgmfaaPFnExactNeedlessCardsx0
import Derived.Test.YtfiikhdkohgmfaaPFnExactNeedlessCardsx1
import Derived.Test.YtfiikhdkohgmfaaPFnExactNeedlessCardsx2
import Derived.Test.YtfiikhdkohgmfaaPFnExactNeedlessCardsx3
import Derived.Test.YtfiikhdkohgmfaaPFnExactNeedlessCardsx4
import Derived.Test.YtfiikhdkohgmfaaPFnExactNeedlessCardsx5
import Derived.Test.YtfiikhdkohgmfaaPFnExactNeedlessCardsx6
import Derived.Test.YtfiikhdkohgmfaaPFnExactNeedlessCardsxs
set_option linter.unusedVariables false
set_option linter.unusedSimpArgs false
namespace Go.Proofs.Ytfiikhdkohgmfaa.Pure
open Go.RowKit Go.Proofs.Ytfiikhdkohgmfaa.PFnExactNeedlessCards Go.Proofs.YtfiikhdkohgmfaaW.PrintWords Go.Proofs.YtfiikhdkohgmfaaW.PrintLast Go.Proofs.YtfiikhdkohgmfaaW.PrintMore
theorem Ev.pos {α : Type} {c : Prop} [Decidable c] {g f : Nat → Option α} {r : α} (hc : c) (h : Ev g r) : Ev (fun k => if c then g k else f k) r := by
  obtain ⟨K, h⟩ := h
  exact ⟨K, fun k hk => by show (if c then g k else f k) = _; rw [if_pos hc]; exact h k hk⟩
theorem Ev.neg {α : Type} {c : Prop} [Decidable c] {g f : Nat → Option α} {r : α} (hc : ¬ c) (h : Ev f r) : Ev (fun k => if c then g k else f k) r := by
  obtain ⟨K, h⟩ := h
  exact ⟨K, fun k hk => by show (if c then g k else f k) = _; rw [if_neg hc]; exact h k hk⟩
theorem Ev.val {α : Type} {a r : α} (h : a = r) : Ev (fun _ => some a) r := ⟨0, fun _ _ => by rw [h]⟩
theorem Ev.const {α : Type} {a : Option α} {r : α} (h : a = some r) : Ev (fun _ => a) r := ⟨0, fun _ _ => h⟩
theorem Ev.bindc {α β : Type} {a : Option α} {f : Nat → α → Option β} {x : α} {r : β} (h : a = some x) (k : Ev (fun n => f n x) r) : Ev (fun n => a.bind (f n)) r := by
  obtain ⟨K, k⟩ := k
  exact ⟨K, fun n hn => by show a.bind (f n) = _; rw [h]; exact k n hn⟩
theorem Ev.eq {α : Type} {g : Nat → Option α} {r r' : α} (h : Ev g r) (e : r = r') : Ev g r' := e ▸ h
def inB (a b c : Int) : Bool := decide (b ≤ a) && decide (a ≤ c)
theorem Ev.ite {α : Type} {c : Prop} [Decidable c] {g f : Nat → Option α} {r : α} (h : c → Ev g r) (h' : ¬ c → Ev f r) : Ev (fun k => if c then g k else f k) r := by
  by_cases hc : c
  · exact Ev.pos hc (h hc)
  · exact Ev.neg hc (h' hc)
theorem rd_eq (l : List Int) (i : Nat) (h : i < l.length) : rd l (i : Int) = l[i] := by simp [rd, List.getD_eq_getElem?_getD, List.getElem?_eq_getElem h]
theorem rd_app (p : List Int) (x : Int) (s : List Int) : rd (p ++ x :: s) (p.length : Int) = x := by simp [rd, List.getD_eq_getElem?_getD]
theorem w64 {n : Int} (h0 : -9223372036854775808 ≤ n) (h1 : n ≤ 9223372036854775807) : wrap64 n = n := by unfold wrap64; omega
theorem laws_toIntS.ev_l (l : List Int) (hl : l.length ≤ 35184372088832) (d : Nat) : ∀ (acc : List Int) (i : Nat), acc.length = l.length → i + d = l.length → (∀ j, j < i → acc[j]? = l[j]?) → Ev (fun k => laws_toIntS.l0 k l acc (i : Int)) l := by
  induction d with
  | zero =>
    intro acc i ha hi hj
    refine Ev.step (f := fun _ => some acc) (fun k => ?_) (Ev.val ?_)
    · rw [laws_toIntS.l0, if_neg (by omega)]
    · apply List.ext_getElem?
      intro j
      by_cases h : j < i
      · exact hj j h
      · rw [List.getElem?_eq_none (by omega), List.getElem?_eq_none (by omega)]
  | succ d ih =>
    intro acc i ha hi hj
    have hlt : i < l.length := by omega
    refine Ev.step (f := fun k => laws_toIntS.l0 k l (acc.set i l[i]) ((i + 1 : Nat) : Int)) (fun k => ?_) (ih (acc.set i l[i]) (i + 1) (by simp [ha]) (by omega) ?_)
    · rw [laws_toIntS.l0, if_pos (by omega), if_pos (by omega), if_pos (by omega), w64 (by omega) (by omega), rd_eq l i hlt]
      simp
    · intro j hj'
      by_cases e : j = i
      · subst e; rw [List.getElem?_set_self (by omega), List.getElem?_eq_getElem hlt]
      · rw [List.getElem?_set_ne (by omega)]; exact hj j (by omega)
theorem laws_toIntS.ev (l : List Int) (hl : l.length ≤ 35184372088832) : Ev (fun k => laws_toIntS.f k l) l := by
  have h := laws_toIntS.ev_l l hl l.length (List.replicate l.length 0) 0 (by simp) (by omega) (fun j hj => absurd hj (by omega))
  refine Ev.congr (fun k => ?_) h
  simp only [laws_toIntS.f]
  rw [if_pos (by omega), if_pos (by omega)]
  simp
theorem laws_eqIntS.ev_l (s t : List Int) (hl : s.length ≤ 35184372088832) : ∀ (p : List Int), p.length + s.length ≤ 35184372088832 → s.length = t.length → ∀ q : List Int, q.length = p.length → Ev (fun k => laws_eqIntS.l0 k (p ++ s) (q ++ t) (p.length : Int)) (decide (s = t)) := by
  induction s generalizing t with
  | nil =>
    intro p hp ht q hq
    obtain rfl : t = [] := List.eq_nil_of_length_eq_zero (by simpa using ht.symm)
    refine Ev.step (f := fun _ => some true) (fun k => ?_) (Ev.val (by simp))
    rw [laws_eqIntS.l0, if_neg (by simp)]
  | cons x s ih =>
    intro p hp ht q hq
    obtain _ | ⟨y, t⟩ := t
    · simp at ht
    simp only [List.length_cons] at ht hp hl
    have e1 : rd (p ++ x :: s) (p.length : Int) = x := rd_app p x s
    have e2 : rd (q ++ y :: t) (p.length : Int) = y := by rw [← hq]; exact rd_app q y t
    by_cases e : x = y
    · subst e
      have h := ih t (by omega) (p ++ [x]) (by simp <;> omega) (by omega) (q ++ [x]) (by simp [hq])
      refine Ev.step (f := fun k => laws_eqIntS.l0 k ((p ++ [x]) ++ s) ((q ++ [x]) ++ t) ((p ++ [x]).length : Int)) (fun k => ?_) (Ev.eq h (by simp))
      rw [laws_eqIntS.l0, if_pos (by simp <;> omega), if_pos (by omega), if_pos (by simp <;> omega), e1, e2, if_pos rfl, w64 (by omega) (by omega)]
      simp
    · refine Ev.step (f := fun _ => some false) (fun k => ?_) (Ev.val (by simp [e]))
      rw [laws_eqIntS.l0, if_pos (by simp <;> omega), if_pos (by omega), if_pos (by simp <;> omega), e1, e2, if_neg e]
theorem laws_eqIntS.ev (s t : List Int) (hl : s.length ≤ 35184372088832) : Ev (fun k => laws_eqIntS.f k s t) (decide (s = t)) := by
  unfold laws_eqIntS.f
  refine Ev.ite (fun h => ?_) (fun h => Ev.val ?_)
  · exact laws_eqIntS.ev_l s t hl [] (by simpa using hl) (by omega) [] rfl
  · have : s ≠ t := by rintro rfl; exact h rfl
    simp [this]
theorem spec_l1In.val (a b c : Int) : spec_l1In.f a b c = some (decide (b ≤ a) && decide (a ≤ c)) := by
  unfold spec_l1In.f
  by_cases h : a ≥ b
  · rw [if_pos h]; simp [show b ≤ a from h]
  · rw [if_neg h]; simp [show ¬ b ≤ a from h]
theorem spec_l1In.valB (a b c : Int) : spec_l1In.f a b c = some (inB a b c) := spec_l1In.val a b c
theorem impl_within.val (a b c : Int) : impl_within.f a b c = some (decide (b ≤ a) && decide (a ≤ c)) := by
  unfold impl_within.f
  by_cases h : b ≤ a
  · rw [if_pos h]; simp [h]
  · rw [if_neg h]; simp [h]
theorem impl_within.valB (a b c : Int) : impl_within.f a b c = some (inB a b c) := impl_within.val a b c
/-- No element is less than the one before. -/
def sortedB : List Int → Bool
  | [] => true
  | [_] => true
  | x :: y :: s => decide (x ≤ y) && sortedB (y :: s)
theorem sortedB_iff (l : List Int) : sortedB l = true ↔ ∀ i : Nat, ∀ h : i + 1 < l.length, l[i] ≤ l[i + 1] := by
  induction l with
  | nil => simp [sortedB]
  | cons x s ih =>
    cases s with
    | nil => simp [sortedB]
    | cons y s =>
      simp only [sortedB, Bool.and_eq_true, decide_eq_true_eq, ih]
      constructor
      · rintro ⟨h1, h2⟩ i hi
        cases i with
        | zero => exact h1
        | succ i => exact h2 i (by simpa using hi)
      · intro h
        exact ⟨h 0 (by simp), fun i hi => h (i + 1) (by simpa using hi)⟩
theorem impl_areWithin.val (l : List Int) (a b : Int) : impl_areWithin.f l a b = some (l.all fun x => decide (a ≤ x) && decide (x ≤ b)) := rfl
theorem ite_and (t x : Bool) : (if t = true then some x else some false) = some (t && x) := by cases t <;> rfl
def clueB (k a b : Int) : Bool :=
  if k = 0 then inB a 0 4 && b == 0
  else if k = 1 then inB a 0 24 && b == 0
  else if k = 3 then inB a 0 24 && b == 0
  else if k = 2 then inB a 0 24 && inB b 0 1
  else if k = 4 then inB a 0 24 && inB b 0 16
  else if k = 5 then inB a 1 6 && inB b 0 4
  else false
theorem laws_szIntS.val (l : List Int) (a : Int) (hl : l.length ≤ 9223372036854775807) (h0 : 0 ≤ a) (h1 : a ≤ 1048576) : laws_szIntS.f l a = some (if a < (l.length : Int) then (-1 : Int) else a - (l.length : Int)) := by
  unfold laws_szIntS.f
  rw [w64 (by omega) (by omega)]
  by_cases h : a < (l.length : Int)
  · rw [if_pos (by omega), if_pos h]
  · rw [if_neg (by omega), if_neg h]
/-- Each element is greater than the one before. -/
def risesB : List Int → Bool
  | [] => true
  | [_] => true
  | x :: y :: s => decide (x < y) && risesB (y :: s)
theorem spec_l1Rising.ev_l (a b : Int) (s : List Int) : ∀ (p : List Int) (x : Int), p.length + s.length + 1 ≤ 9223372036854775806 → Ev (fun k => spec_l1Rising.l0 k (p ++ x :: s) a b (p ++ x :: s) ((p ++ x :: s).length : Int) ((p.length + 1 : Nat) : Int)) ((s.all fun x => inB x a b) && risesB (x :: s)) := by
  induction s with
  | nil =>
    intro p x hp
    refine Ev.step (f := fun _ => some true) (fun k => ?_) (Ev.val (by simp [risesB]))
    rw [spec_l1Rising.l0, if_neg (by simp)]
  | cons y s ih =>
    intro p x hp
    simp only [List.length_cons] at hp
    have e1 : rd (p ++ x :: y :: s) (p.length : Int) = x := rd_app p x _
    have e2 : rd (p ++ x :: y :: s) ((p.length + 1 : Nat) : Int) = y := by
      have := rd_app (p ++ [x]) y s
      simpa using this
    have hw : wrap64 (((p.length + 1 : Nat) : Int) - 1) = (p.length : Int) := by rw [w64 (by omega) (by omega)]; omega
    have h := ih (p ++ [x]) y (by simp <;> omega)
    by_cases c : inB y a b = true
    · by_cases c2 : x < y
      · refine Ev.step (f := fun k => spec_l1Rising.l0 k ((p ++ [x]) ++ y :: s) a b ((p ++ [x]) ++ y :: s) (((p ++ [x]) ++ y :: s).length : Int) (((p ++ [x]).length + 1 : Nat) : Int)) (fun k => ?_) (Ev.eq h (by simp only [List.all_cons, c, risesB, c2, decide_true, Bool.true_and]))
        rw [spec_l1Rising.l0, if_pos (by simp <;> omega), if_pos (by omega), if_pos (by simp <;> omega), e2, spec_l1In.valB, Option.bind_some, if_pos c, if_pos (by omega), hw, if_pos (by omega), if_pos (by simp <;> omega), e1, if_neg (by omega), w64 (by omega) (by omega)]
        simp
      · refine Ev.step (f := fun _ => some false) (fun k => ?_) (Ev.val (by simp [risesB, c2]))
        rw [spec_l1Rising.l0, if_pos (by simp <;> omega), if_pos (by omega), if_pos (by simp <;> omega), e2, spec_l1In.valB, Option.bind_some, if_pos c, if_pos (by omega), hw, if_pos (by omega), if_pos (by simp <;> omega), e1, if_pos (by omega)]
    · refine Ev.step (f := fun _ => some false) (fun k => ?_) (Ev.val (by simp only [List.all_cons]; rw [Bool.not_eq_true] at c; rw [c]; rfl))
      rw [spec_l1Rising.l0, if_pos (by simp <;> omega), if_pos (by omega), if_pos (by simp <;> omega), e2, spec_l1In.valB, Option.bind_some, if_neg c]
theorem spec_l1Rising.ev (l : List Int) (a b : Int) (hl : l.length ≤ 9223372036854775806) : Ev (fun k => spec_l1Rising.f k l a b) ((l.all fun x => inB x a b) && risesB l) := by
  unfold spec_l1Rising.f
  cases l with
  | nil =>
    refine Ev.step (f := fun _ => some true) (fun k => ?_) (Ev.val (by simp [risesB]))
    rw [spec_l1Rising.l0, if_neg (by simp)]
  | cons x s =>
    have h := spec_l1Rising.ev_l a b s [] x (by simpa using hl)
    simp only [List.length_cons] at hl
    have e1 : rd (x :: s) 0 = x := by simp [rd]
    by_cases c : inB x a b = true
    · refine Ev.step (f := fun k => spec_l1Rising.l0 k (x :: s) a b (x :: s) ((x :: s).length : Int) ((([] : List Int).length + 1 : Nat) : Int)) (fun k => ?_) (Ev.eq h (by simp [c]))
      rw [spec_l1Rising.l0, if_pos (by simp <;> omega), if_pos (by omega), if_pos (by simp <;> omega), e1, spec_l1In.valB, Option.bind_some, if_pos c, if_neg (by omega), w64 (by omega) (by omega)]
      simp
    · refine Ev.step (f := fun _ => some false) (fun k => ?_) (Ev.val (by simp only [List.all_cons]; rw [Bool.not_eq_true] at c; rw [c]; rfl))
      rw [spec_l1Rising.l0, if_pos (by simp <;> omega), if_pos (by omega), if_pos (by simp <;> omega), e1, spec_l1In.valB, Option.bind_some, if_neg c]
theorem impl_rises.ev_l (s : List Int) : ∀ (p : List Int) (x : Int), p.length + s.length + 1 ≤ 9223372036854775806 → Ev (fun k => impl_rises.l0 k (p ++ x :: s) ((p.length + 1 : Nat) : Int)) (risesB (x :: s)) := by
  induction s with
  | nil =>
    intro p x hp
    refine Ev.step (f := fun _ => some true) (fun k => ?_) (Ev.val (by simp [risesB]))
    rw [impl_rises.l0, if_neg (by simp)]
  | cons y s ih =>
    intro p x hp
    simp only [List.length_cons] at hp
    have e1 : rd (p ++ x :: y :: s) (p.length : Int) = x := rd_app p x _
    have e2 : rd (p ++ x :: y :: s) ((p.length + 1 : Nat) : Int) = y := by
      have := rd_app (p ++ [x]) y s
      simpa using this
    have hw : wrap64 (((p.length + 1 : Nat) : Int) - 1) = (p.length : Int) := by rw [w64 (by omega) (by omega)]; omega
    by_cases c : x < y
    · have h := ih (p ++ [x]) y (by simp <;> omega)
      refine Ev.step (f := fun k => impl_rises.l0 k ((p ++ [x]) ++ y :: s) (((p ++ [x]).length + 1 : Nat) : Int)) (fun k => ?_) (Ev.eq h (by simp [risesB, c]))
      rw [impl_rises.l0, if_pos (by simp <;> omega), hw, if_pos (by omega), if_pos (by simp <;> omega), if_pos (by omega), e1, e2, if_neg (by omega), w64 (by omega) (by omega)]
      simp
    · refine Ev.step (f := fun _ => some false) (fun k => ?_) (Ev.val (by simp [risesB, c]))
      rw [impl_rises.l0, if_pos (by simp <;> omega), hw, if_pos (by omega), if_pos (by simp <;> omega), if_pos (by omega), e1, e2, if_pos (by omega)]
theorem impl_rises.ev (l : List Int) (hl : l.length ≤ 9223372036854775806) : Ev (fun k => impl_rises.f k l) (risesB l) := by
  unfold impl_rises.f
  cases l with
  | nil =>
    refine Ev.step (f := fun _ => some true) (fun k => ?_) (Ev.val (by simp [risesB]))
    rw [impl_rises.l0, if_neg (by simp)]
  | cons x s => exact impl_rises.ev_l s [] x (by simp at hl ⊢; omega)
def ruGoodB (l : List Int) : Bool := decide (2 ≤ l.length) && ((l.all fun x => inB x 0 60) && risesB l) && rd l 0 == 0
theorem risesB_head {x : Int} {s : List Int} (h : risesB (x :: s) = true) : ∀ y ∈ s, x < y := by
  induction s generalizing x with
  | nil => simp
  | cons z s ih =>
    simp only [risesB, Bool.and_eq_true, decide_eq_true_eq] at h
    intro y hy
    rcases List.mem_cons.1 hy with rfl | hy
    · exact h.1
    · have := ih h.2 y hy; omega
theorem risesB_last {l : List Int} (h : risesB l = true) (hne : l ≠ []) : ∀ y ∈ l, y ≤ l.getLast hne := by
  induction l with
  | nil => exact absurd rfl hne
  | cons x s ih =>
    intro y hy
    cases s with
    | nil => simp at hy; simp [hy]
    | cons z s =>
      have h2 : risesB (z :: s) = true := by simp only [risesB, Bool.and_eq_true] at h; exact h.2
      rw [List.getLast_cons (by simp)]
      rcases List.mem_cons.1 hy with rfl | hy
      · have h1 := risesB_head h z (by simp)
        have := ih h2 (by simp) z (by simp)
        omega
      · exact ih h2 (by simp) y hy
theorem rd_last (x : Int) (s : List Int) : rd (x :: s) (s.length : Int) = (x :: s).getLast (by simp) := by
  rw [List.getLast_eq_getElem, rd_eq (x :: s) s.length (by simp)]
  simp
def numsFrom : Nat → Int → List Int
  | 0, _ => []
  | n + 1, m => m :: numsFrom n (m + 1)
theorem rd_set (p : List Int) (x y : Int) (s : List Int) : (p ++ x :: s).set (p.length : Int).toNat y = p ++ y :: s := by
  rw [Int.toNat_natCast, List.set_append_right _ _ (Nat.le_refl _)]; simp
theorem laws_markIntS.ev_l (s : List Int) : ∀ (p : List Int) (a : Int), p.length + s.length ≤ 1000000000000000000 → 0 ≤ a → a + s.length ≤ 4000000000000000000 → Ev (fun k => laws_markIntS.l0 k (p ++ s) a (p.length : Int)) (a + s.length, p ++ numsFrom s.length a) := by
  induction s with
  | nil =>
    intro p a hp h0 h1
    refine Ev.step (f := fun _ => some (a, p ++ [])) (fun k => ?_) (Ev.val (by simp [numsFrom]))
    rw [laws_markIntS.l0, if_neg (by simp)]
  | cons x s ih =>
    intro p a hp h0 h1
    simp only [List.length_cons] at hp h1
    have h := ih (p ++ [a]) (a + 1) (by simp; omega) (by omega) (by omega)
    refine Ev.step (f := fun k => laws_markIntS.l0 k ((p ++ [a]) ++ s) (a + 1) ((p ++ [a]).length : Int)) (fun k => ?_) (Ev.eq h ?_)
    · rw [laws_markIntS.l0, if_pos (by simp <;> omega), if_pos (by omega), rd_set, w64 (n := a + 1) (by omega) (by omega), w64 (by omega) (by omega)]
      simp
    · simp [numsFrom]; omega
theorem laws_markIntS.ev (l : List Int) (hl : l.length ≤ 1000000000000000000) : Ev (fun k => laws_markIntS.f k l 1) ((1 + l.length : Int), numsFrom l.length 1) := by
  unfold laws_markIntS.f
  exact laws_markIntS.ev_l l [] 1 (by simpa using hl) (by omega) (by omega)
theorem laws_heldIntS.ev_l : ∀ (n : Nat) (p : List Int) (a : Int), p.length + n ≤ 1000000000000000000 → 0 ≤ a → a + n ≤ 4000000000000000000 → Ev (fun k => laws_heldIntS.l0 k (p ++ numsFrom n a) a (p.length : Int)) (a + n) := by
  intro n
  induction n with
  | zero =>
    intro p a hp h0 h1
    refine Ev.step (f := fun _ => some a) (fun k => ?_) (Ev.val (by simp))
    rw [laws_heldIntS.l0, if_neg (by simp [numsFrom])]
  | succ n ih =>
    intro p a hp h0 h1
    have h := ih (p ++ [a]) (a + 1) (by simp; omega) (by omega) (by omega)
    refine Ev.step (f := fun k => laws_heldIntS.l0 k ((p ++ [a]) ++ numsFrom n (a + 1)) (a + 1) ((p ++ [a]).length : Int)) (fun k => ?_) (Ev.eq h (by omega))
    simp only [numsFrom]
    rw [laws_heldIntS.l0, if_pos (by simp <;> omega), if_pos (by omega), rd_app, if_pos rfl, w64 (n := a + 1) (by omega) (by omega), w64 (by omega) (by omega)]
    simp
theorem laws_heldIntS.ev (n : Nat) (hn : n ≤ 1000000000000000000) : Ev (fun k => laws_heldIntS.f k (numsFrom n 1) 1) (1 + n : Int) := by
  unfold laws_heldIntS.f
  exact laws_heldIntS.ev_l n [] 1 (by simpa using hn) (by omega) (by omega)
/-- A table of N values. -/
def tab (N : Nat) (f : Int → Int) : List Int := (List.range N).map fun (i : Nat) => f (i : Int)
theorem tab_length (N : Nat) (f : Int → Int) : (tab N f).length = N := by simp [tab]
theorem rd_tab (N : Nat) (f : Int → Int) (i : Int) (h0 : 0 ≤ i) (h1 : i < N) : rd (tab N f) i = f i := by
  obtain ⟨n, rfl⟩ := Int.eq_ofNat_of_zero_le h0
  rw [rd_eq _ _ (by rw [tab_length]; omega)]
  simp [tab]
theorem tab_congr (N : Nat) (f g : Int → Int) (h : ∀ i : Int, 0 ≤ i → i < N → f i = g i) : tab N f = tab N g := by
  unfold tab
  apply List.map_congr_left
  intro i hi
  exact h i (by omega) (by have := List.mem_range.1 hi; omega)
theorem tab_set (N : Nat) (f : Int → Int) (i : Int) (v : Int) (h0 : 0 ≤ i) : (tab N f).set i.toNat v = tab N (fun j => if j = i then v else f j) := by
  obtain ⟨n, rfl⟩ := Int.eq_ofNat_of_zero_le h0
  apply List.ext_getElem?
  intro j
  unfold tab
  by_cases hj : j < N
  · by_cases e : n = j
    · subst e
      simp [hj]
    · rw [List.getElem?_set_ne (by simpa using e)]
      simp [hj]
      omega
  · rw [List.getElem?_eq_none (by simp; omega), List.getElem?_eq_none (by simp; omega)]
/-- How many ways there are to make s of some of the pieces. -/
def cnt : List Int → Int → Int
  | [], s => if s = 0 then 1 else 0
  | x :: t, s => cnt t s + cnt t (s - x)
theorem cnt_snoc (l : List Int) (n s : Int) : cnt (l ++ [n]) s = cnt l s + cnt l (s - n) := by
  induction l generalizing s with
  | nil => simp [cnt]
  | cons x t ih =>
    simp only [List.cons_append, cnt, ih]
    rw [show s - x - n = s - n - x by omega]; omega
theorem cnt_nonneg (l : List Int) (s : Int) : 0 ≤ cnt l s := by
  induction l generalizing s with
  | nil => unfold cnt; split <;> omega
  | cons x t ih => have h1 := ih s; have h2 := ih (s - x); unfold cnt; omega
theorem cnt_le (l : List Int) (s : Int) : cnt l s ≤ 2 ^ l.length := by
  induction l generalizing s with
  | nil => unfold cnt; split <;> simp
  | cons x t ih =>
    have h1 := ih s; have h2 := ih (s - x)
    unfold cnt
    rw [List.length_cons, Int.pow_succ]; omega
theorem cnt_neg (l : List Int) (hl : ∀ x ∈ l, 0 ≤ x) (s : Int) (h : s < 0) : cnt l s = 0 := by
  induction l generalizing s with
  | nil => unfold cnt; rw [if_neg (by omega)]
  | cons x t ih =>
    have hx := hl x (by simp)
    unfold cnt
    rw [ih (fun y hy => hl y (by simp [hy])) s h, ih (fun y hy => hl y (by simp [hy])) (s - x) (by omega)]; rfl
theorem sum_nonneg (l : List Int) (hl : ∀ x ∈ l, 0 ≤ x) : 0 ≤ l.sum := by
  induction l with
  | nil => simp
  | cons x t ih =>
    have hx := hl x (by simp)
    have := ih (fun y hy => hl y (by simp [hy]))
    rw [List.sum_cons]; omega
theorem cnt_above (l : List Int) (hl : ∀ x ∈ l, 0 ≤ x) (s : Int) (h : l.sum < s) : cnt l s = 0 := by
  induction l generalizing s with
  | nil => unfold cnt; rw [if_neg (by simp at h; omega)]
  | cons x t ih =>
    have hx := hl x (by simp)
    rw [List.sum_cons] at h
    unfold cnt
    rw [ih (fun y hy => hl y (by simp [hy])) s (by omega), ih (fun y hy => hl y (by simp [hy])) (s - x) (by omega)]; rfl
theorem pow_le_20 {n : Nat} (h : n ≤ 20) : (2 : Int) ^ n ≤ 1048576 := by
  have : (2 : Nat) ^ n ≤ 2 ^ 20 := Nat.pow_le_pow_right (by omega) h
  have e : ((2 : Int) ^ n) = ((2 ^ n : Nat) : Int) := by simp
  rw [e]; omega
theorem sum_le (l : List Int) (B : Int) (hl : ∀ x ∈ l, x ≤ B) : l.sum ≤ l.length * B := by
  induction l with
  | nil => simp
  | cons x t ih =>
    have hx := hl x (by simp)
    have := ih (fun y hy => hl y (by simp [hy]))
    rw [List.sum_cons, List.length_cons]
    have e : ((t.length + 1 : Nat) : Int) * B = t.length * B + B := by
      rw [show ((t.length + 1 : Nat) : Int) = (t.length : Int) + 1 by omega, Int.add_mul]; omega
    omega
/-- Up to where all sums can be made of pieces in order. -/
def runL : List Int → Int → Int
  | [], a => a
  | x :: t, a => if x > a + 1 then a else runL t (a + x)
/-- What a clue of a kind tells of pieces. -/
def pzV (kind a : Int) (l : List Int) : Int :=
  if kind = 0 then (l.length : Int) else if kind = 1 then l.sum else if kind = 2 then (if cnt l a < 1 then cnt l a else 1) else if kind = 3 then runL l 0 else if kind = 4 then cnt l a else (l.count a : Int)
/-- The integers in order. -/
def sortL (l : List Int) : List Int := l.mergeSort fun x y => decide (x ≤ y)
theorem perm_sorted_eq : ∀ (a b : List Int), a.Perm b → a.Pairwise (fun x y => x ≤ y) → b.Pairwise (fun x y => x ≤ y) → a = b
  | [], b, h, _, _ => (List.nil_perm.1 h).symm
  | x :: a, [], h, _, _ => absurd h.length_eq (by simp)
  | x :: a, y :: b, h, ha, hb => by
    rw [List.pairwise_cons] at ha hb
    have hy : y ∈ x :: a := h.symm.subset (by simp)
    have hx : x ∈ y :: b := h.subset (by simp)
    have e : x = y := by
      rcases List.mem_cons.1 hy with e1 | e1
      · exact e1.symm
      · rcases List.mem_cons.1 hx with e2 | e2
        · exact e2
        · have := ha.1 y e1; have := hb.1 x e2; omega
    subst e
    rw [perm_sorted_eq a b (List.Perm.cons_inv h) ha.2 hb.2]
theorem sortL_perm (l : List Int) : (sortL l).Perm l := List.mergeSort_perm l _
theorem sortL_sorted (l : List Int) : (sortL l).Pairwise (fun x y => x ≤ y) := by
  have h := List.pairwise_mergeSort (le := fun x y : Int => decide (x ≤ y)) (fun a b c h1 h2 => by simp at *; omega) (fun a b => by simp; omega) l
  exact h.imp (fun h => of_decide_eq_true h)
theorem sortL_length (l : List Int) : (sortL l).length = l.length := (sortL_perm l).length_eq
/-- The pieces along a chain. -/
def partsL (links : Int) : List Int → Int → List Int
  | [], n => if n < links then [links - n] else []
  | c :: s, n => if n < c then (c - n) :: 1 :: partsL links s (c + 1) else 1 :: partsL links s (c + 1)
theorem partsL_length (links : Int) : ∀ (s : List Int) (n : Int), (partsL links s n).length ≤ 2 * s.length + 1
  | [], n => by rw [partsL]; split <;> simp
  | c :: s, n => by
    have := partsL_length links s (c + 1)
    rw [partsL]
    split <;> simp <;> omega
theorem partsL_pos (links : Int) (hl : 1 ≤ links) (s : List Int) : 0 < (partsL links s 0).length := by
  cases s with
  | nil => rw [partsL, if_pos (by omega)]; simp
  | cons c s => rw [partsL]; split <;> simp
theorem partsL_ge (links : Int) : ∀ (s : List Int) (n : Int), (∀ x ∈ partsL links s n, 1 ≤ x)
  | [], n, x, hx => by
    rw [partsL] at hx
    split at hx
    · simp at hx; omega
    · simp at hx
  | c :: s, n, x, hx => by
    have := partsL_ge links s (c + 1)
    rw [partsL] at hx
    split at hx
    · simp at hx
      rcases hx with h | h | h
      · omega
      · omega
      · exact this x h
    · simp at hx
      rcases hx with h | h
      · omega
      · exact this x h
theorem partsL_le (links : Int) (hl : links ≤ 1000) : ∀ (s : List Int) (n : Int), 0 ≤ n → (∀ x ∈ s, 0 ≤ x ∧ x ≤ 1000) → (∀ x ∈ partsL links s n, x ≤ 1000)
  | [], n, hn, hs, x, hx => by
    rw [partsL] at hx
    split at hx
    · simp at hx; omega
    · simp at hx
  | c :: s, n, hn, hs, x, hx => by
    have hc := hs c (by simp)
    have := partsL_le links hl s (c + 1) (by omega) (fun y hy => hs y (by simp [hy]))
    rw [partsL] at hx
    split at hx
    · simp at hx
      rcases hx with h | h | h
      · omega
      · omega
      · exact this x h
    · simp at hx
      rcases hx with h | h
      · omega
      · exact this x h
theorem spec_l1Own.val (l : List Int) (hl : l.length ≤ 1000000) : spec_l1Own.f l = some l := by
  unfold spec_l1Own.f
  rw [Option.bind_some, if_pos (by simp <;> omega)]; rfl
def cutsB (a : Int) (l : List Int) : Bool := inB a 1 1000 && (decide (l.length ≤ 9) && ((l.all fun x => inB x 0 (a - 1)) && risesB l))
theorem cutsB_in {a : Int} {l : List Int} (h : cutsB a l = true) : 1 ≤ a ∧ a ≤ 1000 ∧ l.length ≤ 9 ∧ ∀ x ∈ l, 0 ≤ x ∧ x ≤ a - 1 := by
  unfold cutsB inB at h
  simp at h
  exact ⟨h.1.1, h.1.2, h.2.1, h.2.2.1⟩
theorem cutsB_in' {a : Int} {l : List Int} (h : cutsB a l = true) : ∀ x ∈ l, 0 ≤ x ∧ x ≤ 1000 := fun x hx => by
  obtain ⟨_, h2, _, h4⟩ := cutsB_in h
  have := h4 x hx; omega
def markS : List (List Int) → Int → List (List Int)
  | [], _ => []
  | l :: s, a => numsFrom l.length a :: markS s (a + l.length)
def tot : List (List Int) → Int
  | [] => 0
  | l :: s => l.length + tot s
theorem markS_length : ∀ (s : List (List Int)) (a : Int), (markS s a).length = s.length
  | [], _ => rfl
  | l :: s, a => by simp [markS, markS_length s]
theorem tot_nonneg : ∀ s : List (List Int), 0 ≤ tot s
  | [] => by simp [tot]
  | l :: s => by have := tot_nonneg s; rw [tot]; omega
theorem tot_le : ∀ s : List (List Int), (∀ l ∈ s, l.length ≤ 1048576) → tot s ≤ 1048576 * (s.length : Int)
  | [], _ => by simp [tot]
  | l :: s, h => by
    have h1 := h l (by simp)
    have h2 := tot_le s (fun x hx => h x (by simp [hx]))
    rw [tot, List.length_cons]; omega
theorem setL (p : List (List Int)) (x y : List Int) (s : List (List Int)) : (p ++ x :: s).set (p.length : Int).toNat y = p ++ y :: s := by
  rw [Int.toNat_natCast, List.set_append_right _ _ (Nat.le_refl _)]; simp
theorem laws_markIntS.evA (l : List Int) (a : Int) (hl : l.length ≤ 1048576) (h0 : 0 ≤ a) (h1 : a ≤ 2000000000000) : Ev (fun k => laws_markIntS.f k l a) (a + l.length, numsFrom l.length a) := by
  unfold laws_markIntS.f
  exact laws_markIntS.ev_l l [] a (by simp; omega) h0 (by omega)
theorem laws_heldIntS.evA (n : Nat) (a : Int) (hn : n ≤ 1048576) (h0 : 0 ≤ a) (h1 : a ≤ 2000000000000) : Ev (fun k => laws_heldIntS.f k (numsFrom n a) a) (a + n) := by
  unfold laws_heldIntS.f
  exact laws_heldIntS.ev_l n [] a (by simp; omega) h0 (by omega)
theorem laws_markIntSS.ev_l (s : List (List Int)) : ∀ (p : List (List Int)) (a : Int), (∀ l ∈ s, l.length ≤ 1048576) → p.length + s.length ≤ 1048576 → 0 ≤ a → a + 1048576 * s.length ≤ 1500000000000 → Ev (fun k => laws_markIntSS.l0 k (p ++ s) a (p.length : Int)) (a + tot s, p ++ markS s a) := by
  induction s with
  | nil =>
    intro p a hs hp h0 h1
    refine Ev.step (f := fun _ => some (a, p ++ [])) (fun k => ?_) (Ev.val (by simp [markS, tot]))
    rw [laws_markIntSS.l0, if_neg (by simp)]
  | cons l s ih =>
    intro p a hs hp h0 h1
    simp only [List.length_cons] at hp h1
    have hl := hs l (by simp)
    have h := ih (p ++ [numsFrom l.length a]) (a + l.length) (fun x hx => hs x (by simp [hx])) (by simp; omega) (by omega) (by omega)
    refine Ev.step (f := fun k => (laws_markIntS.f k l a).bind fun r => laws_markIntSS.l0 k ((p ++ l :: s).set (p.length : Int).toNat r.2) r.1 (wrap64 ((p.length : Int) + 1))) (fun k => ?_) (Ev.bind (laws_markIntS.evA l a hl h0 (by omega)) (Ev.eq (r := (a + l.length + tot s, (p ++ [numsFrom l.length a]) ++ markS s (a + l.length))) ?_ ?_))
    · rw [laws_markIntSS.l0, if_pos (by simp <;> omega), if_pos (by omega), show (p ++ l :: s).getD (p.length : Int).toNat [] = l by simp [List.getD_eq_getElem?_getD]]
    · rw [setL, w64 (by omega) (by omega)]
      simpa using h
    · simp [markS, tot]; omega
theorem laws_markIntSS.ev (L : List (List Int)) (hs : ∀ l ∈ L, l.length ≤ 1048576) (hL : L.length ≤ 1048576) : Ev (fun k => laws_markIntSS.f k L 1) ((1 + tot L : Int), markS L 1) := by
  unfold laws_markIntSS.f
  exact laws_markIntSS.ev_l L [] 1 hs (by simpa using hL) (by omega) (by omega)
theorem rdL_app (p : List (List Int)) (x : List Int) (s : List (List Int)) : rd_L1 (p ++ x :: s) (p.length : Int) = x := by simp [rd_L1, List.getD_eq_getElem?_getD]
theorem laws_eqIntSS.same_l (s : List (List Int)) : ∀ (p : List (List Int)), (∀ l ∈ s, l.length ≤ 1048576) → p.length + s.length ≤ 9223372036854775806 → Ev (fun k => laws_eqIntSS.l0 k (p ++ s) (p ++ s) (p.length : Int)) true := by
  induction s with
  | nil =>
    intro p hs hp
    refine Ev.step (f := fun _ => some true) (fun k => ?_) (Ev.val rfl)
    rw [laws_eqIntSS.l0, if_neg (by simp)]
  | cons l s ih =>
    intro p hs hp
    simp only [List.length_cons] at hp
    have hl := hs l (by simp)
    have h := ih (p ++ [l]) (fun x hx => hs x (by simp [hx])) (by simp; omega)
    have he := laws_eqIntS.ev l l (by omega)
    rw [decide_eq_true rfl] at he
    refine Ev.step (f := fun k => (laws_eqIntS.f k l l).bind fun t => if t = true then laws_eqIntSS.l0 k (p ++ l :: s) (p ++ l :: s) (wrap64 ((p.length : Int) + 1)) else some false) (fun k => ?_) (Ev.bind he (Ev.pos rfl ?_))
    · rw [laws_eqIntSS.l0, if_pos (by simp <;> omega), if_pos (by omega), if_pos (by simp <;> omega), rdL_app]
    · rw [w64 (by omega) (by omega)]
      simpa using h
theorem laws_eqIntSS.same (L : List (List Int)) (hs : ∀ l ∈ L, l.length ≤ 1048576) (hl : L.length ≤ 9223372036854775806) : Ev (fun k => laws_eqIntSS.f k L L) true :=
  Ev.pos rfl (laws_eqIntSS.same_l L [] hs (by simpa using hl))
def szL : List (List Int) → Int → Int
  | [], a => a
  | l :: s, a => if a < (l.length : Int) then -1 else szL s (a - l.length)
def szC (L : List (List Int)) : Int := if 1048576 < (L.length : Int) then -1 else szL L (1048576 - L.length)
theorem szL_ge : ∀ (s : List (List Int)) (a : Int), 0 ≤ a → -1 ≤ szL s a
  | [], a, h => by rw [szL]; omega
  | l :: s, a, h => by
    rw [szL]; split
    · omega
    · exact szL_ge s _ (by omega)
theorem szL_in : ∀ (s : List (List Int)) (a : Int), 0 ≤ a → 0 ≤ szL s a → ∀ l ∈ s, (l.length : Int) ≤ a
  | [], a, _, _, l, hl => by cases hl
  | l :: s, a, h, h2, x, hx => by
    rw [szL] at h2
    split at h2
    · omega
    · rename_i c
      rcases List.mem_cons.1 hx with e | e
      · rw [e]; omega
      · have := szL_in s (a - l.length) (by omega) h2 x e; omega
theorem szC_in {L : List (List Int)} (h : ¬ szC L < 0) : L.length ≤ 1048576 ∧ ∀ l ∈ L, l.length ≤ 1048576 := by
  unfold szC at h
  split at h
  · omega
  · exact ⟨by omega, fun l hl => by have := szL_in L (1048576 - L.length) (by omega) (by omega) l hl; omega⟩
theorem laws_szIntSS.ev_l (s : List (List Int)) : ∀ (p : List (List Int)) (a : Int), (∀ l ∈ s, l.length ≤ 9223372036854775807) → p.length + s.length ≤ 1048576 → 0 ≤ a → a ≤ 1048576 → Ev (fun k => laws_szIntSS.l0 k (p ++ s) a (p.length : Int)) (szL s a) := by
  induction s with
  | nil =>
    intro p a hs hp h0 h1
    refine Ev.step (f := fun _ => some a) (fun k => ?_) (Ev.val (by rw [szL]))
    rw [laws_szIntSS.l0, if_neg (by simp)]
  | cons l s ih =>
    intro p a hs hp h0 h1
    simp only [List.length_cons] at hp
    have hv := laws_szIntS.val l a (hs l (by simp)) h0 h1
    by_cases c : a < (l.length : Int)
    · refine Ev.step (f := fun _ => some (-1)) (fun k => ?_) (Ev.val (by rw [szL, if_pos c]))
      rw [laws_szIntSS.l0, if_pos (by simp <;> omega), if_pos (by omega), show rd_L1 (p ++ l :: s) (p.length : Int) = l by simp [rd_L1, List.getD_eq_getElem?_getD], hv, Option.bind_some, if_pos c, if_pos (by omega)]
    · have h := ih (p ++ [l]) (a - l.length) (fun x hx => hs x (by simp [hx])) (by simp; omega) (by omega) (by omega)
      refine Ev.step (f := fun k => laws_szIntSS.l0 k ((p ++ [l]) ++ s) (a - l.length) ((p ++ [l]).length : Int)) (fun k => ?_) (Ev.eq h (by rw [szL, if_neg c]))
      rw [laws_szIntSS.l0, if_pos (by simp <;> omega), if_pos (by omega), show rd_L1 (p ++ l :: s) (p.length : Int) = l by simp [rd_L1, List.getD_eq_getElem?_getD], hv, Option.bind_some, if_neg c, if_neg (by omega), w64 (by omega) (by omega)]
      simp
theorem laws_szCards.ev (n : Int) (L : List (List Int)) (hL : L.length ≤ 9223372036854775807) (hs : ∀ l ∈ L, l.length ≤ 9223372036854775807) : Ev (fun k => laws_szCards.f k n L 1048576) (szC L) := by
  unfold laws_szCards.f laws_szIntSS.f
  rw [w64 (by omega) (by omega)]
  by_cases c : 1048576 < (L.length : Int)
  · refine Ev.bind (Ev.pos (by omega) (Ev.val rfl)) (Ev.pos (by omega) (Ev.val (by rw [szC, if_pos c])))
  · refine Ev.bind (Ev.neg (by omega) (laws_szIntSS.ev_l L [] _ hs (by simp; omega) (by omega) (by omega))) ?_
    have hg := szL_ge L (1048576 - L.length) (by omega)
    refine Ev.ite (fun d => Ev.val (by rw [szC, if_neg c]; omega)) (fun d => Ev.val (by rw [szC, if_neg c]))
theorem laws_toIntSS.ev_l (s : List (List Int)) : ∀ (p : List (List Int)), (∀ l ∈ s, l.length ≤ 1048576) → p.length + s.length ≤ 1048576 → Ev (fun k => laws_toIntSS.l0 k (p ++ s) (p ++ List.replicate s.length []) (p.length : Int)) (p ++ s) := by
  induction s with
  | nil =>
    intro p hs hp
    refine Ev.step (f := fun _ => some (p ++ List.replicate 0 [])) (fun k => ?_) (Ev.val (by simp))
    rw [laws_toIntSS.l0, if_neg (by simp)]; rfl
  | cons l s ih =>
    intro p hs hp
    simp only [List.length_cons] at hp
    have hl := hs l (by simp)
    have h := ih (p ++ [l]) (fun x hx => hs x (by simp [hx])) (by simp; omega)
    refine Ev.step (f := fun k => (laws_toIntS.f k l).bind fun t => laws_toIntSS.l0 k (p ++ l :: s) ((p ++ [] :: List.replicate s.length []).set (p.length : Int).toNat t) (wrap64 ((p.length : Int) + 1))) (fun k => ?_) (Ev.bind (laws_toIntS.ev l (by omega)) ?_)
    · rw [laws_toIntSS.l0, if_pos (by simp <;> omega), if_pos (by omega), show rd_L1 (p ++ l :: s) (p.length : Int) = l by simp [rd_L1, List.getD_eq_getElem?_getD]]
      congr 1; funext t
      rw [if_pos (by simp <;> omega)]; rfl
    · rw [setL, w64 (by omega) (by omega)]
      simpa using h
theorem laws_toCards.ev (n : Int) (L : List (List Int)) (hL : L.length ≤ 1048576) (hs : ∀ l ∈ L, l.length ≤ 1048576) : Ev (fun k => laws_toCards.f k n L) (n, L) := by
  refine Ev.bind (a := L) ?_ (Ev.val rfl)
  refine Ev.pos (by omega) (Ev.pos (by simp; omega) ?_)
  have h := laws_toIntSS.ev_l L [] hs (by simpa using hL)
  simpa using h
theorem laws_eqCards.same (n : Int) (L : List (List Int)) (hs : ∀ l ∈ L, l.length ≤ 1048576) (hL : L.length ≤ 1048576) : Ev (fun k => laws_eqCards.f k n L n L) true :=
  Ev.pos rfl (Ev.bind (laws_eqIntSS.same L hs (by omega)) (Ev.pos rfl (Ev.val rfl)))
theorem laws_markCards.ev (n : Int) (L : List (List Int)) (hs : ∀ l ∈ L, l.length ≤ 1048576) (hL : L.length ≤ 1048576) : Ev (fun k => laws_markCards.f k n L 1) ((1 + tot L : Int), markS L 1) := laws_markIntSS.ev L hs hL
def cardB (n : Int) (l : List Int) : Bool := (l.all fun x => inB x 0 (n - 1)) && risesB l
def cardsB (n : Int) (L : List (List Int)) : Bool := inB n 1 128 && (decide (L.length ≤ 12) && L.all (cardB n))
theorem cardsB_in {n : Int} {L : List (List Int)} (h : cardsB n L = true) : 1 ≤ n ∧ n ≤ 128 ∧ L.length ≤ 12 ∧ L.all (cardB n) = true := by
  unfold cardsB inB at h
  simp only [Bool.and_eq_true, decide_eq_true_eq] at h
  exact ⟨h.1.1, h.1.2, h.2.1, h.2.2⟩
theorem spec_caGood.ev_l (n : Int) (h1 : 1 ≤ n) (h2 : n ≤ 128) (s : List (List Int)) : ∀ (p : List (List Int)), (∀ l ∈ s, l.length ≤ 1048576) → p.length + s.length ≤ 1048576 → Ev (fun k => spec_caGood.l0 k (p ++ s) ((p ++ s).length : Int) (p.length : Int) n (p ++ s)) (s.all (cardB n)) := by
  induction s with
  | nil =>
    intro p hs hp
    refine Ev.step (f := fun _ => some true) (fun k => ?_) (Ev.val rfl)
    rw [spec_caGood.l0, if_neg (by simp)]
  | cons l s ih =>
    intro p hs hp
    simp only [List.length_cons] at hp
    have hl := hs l (by simp)
    have hr := spec_l1Rising.ev l 0 (n - 1) (by omega)
    have h := ih (p ++ [l]) (fun x hx => hs x (by simp [hx])) (by simp; omega)
    refine Ev.step (f := fun k => (spec_l1Rising.f k l 0 (n - 1)).bind fun t => if t = true then spec_caGood.l0 k ((p ++ [l]) ++ s) (((p ++ [l]) ++ s).length : Int) ((p ++ [l]).length : Int) n ((p ++ [l]) ++ s) else some false) (fun k => ?_) (Ev.bind hr (Ev.ite (fun c => Ev.eq h ?_) (fun c => Ev.val ?_)))
    · rw [spec_caGood.l0, if_pos (by simp <;> omega), if_pos (by omega), if_pos (by simp <;> omega), show rd_L1 (p ++ l :: s) (p.length : Int) = l by simp [rd_L1, List.getD_eq_getElem?_getD], w64 (n := n - 1) (by omega) (by omega), w64 (by omega) (by omega)]
      simp
    · rw [List.all_cons, show cardB n l = true from c, Bool.true_and]
    · rw [Bool.not_eq_true] at c
      rw [List.all_cons, show cardB n l = false from c, Bool.false_and]
theorem spec_caGood.ev (n : Int) (L : List (List Int)) (hL : L.length ≤ 1048576) (hs : ∀ l ∈ L, l.length ≤ 1048576) : Ev (fun k => spec_caGood.f k n L) (cardsB n L) := by
  refine Ev.bindc (spec_l1In.valB n 1 128) (Ev.ite (fun c => ?_) (fun c => ?_))
  · have c' : 1 ≤ n ∧ n ≤ 128 := by unfold inB at c; simpa using c
    apply Ev.step
    · intro k; rw [spec_caGood.j0]
    by_cases d : L.length ≤ 12
    · refine Ev.neg (by simp; omega) (Ev.eq (spec_caGood.ev_l n c'.1 c'.2 L [] hs (by simpa using hL)) ?_)
      rw [cardsB, c, decide_eq_true d, Bool.true_and, Bool.true_and]
    · refine Ev.pos (by simp; omega) (Ev.val ?_)
      rw [cardsB, decide_eq_false d, Bool.false_and, Bool.and_false]
  · apply Ev.step
    · intro k; rw [spec_caGood.j0]
    refine Ev.pos rfl (Ev.val ?_)
    rw [Bool.not_eq_true] at c
    rw [cardsB, c, Bool.false_and]
theorem impl_isCard.ev (n : Int) (h1 : 1 ≤ n) (h2 : n ≤ 128) (l : List Int) (hl : l.length ≤ 1048576) : Ev (fun k => impl_isCard.f k n l) (cardB n l) := by
  unfold impl_isCard.f
  rw [w64 (by omega) (by omega)]
  refine Ev.bindc (impl_areWithin.val l 0 (n - 1)) (Ev.ite (fun c => ?_) (fun c => Ev.val ?_))
  · refine Ev.bind (impl_rises.ev l (by omega)) (Ev.val ?_)
    unfold cardB inB
    rw [c, Bool.true_and]
  · rw [Bool.not_eq_true] at c
    unfold cardB inB
    rw [c, Bool.false_and]
theorem ev_allc {α β : Type} (g : Nat → α → Option β) (v : α → β) : ∀ (L : List α), (∀ l ∈ L, Ev (fun k => g k l) (v l)) → ∃ K, ∀ k, K ≤ k → ∀ l ∈ L, g k l = some (v l)
  | [], _ => ⟨0, fun _ _ l hl => by cases hl⟩
  | a :: L, h => by
    obtain ⟨K1, h1⟩ := ev_allc g v L (fun l hl => h l (by simp [hl]))
    obtain ⟨K2, h2⟩ := h a (by simp)
    refine ⟨max K1 K2, fun k hk l hl => ?_⟩
    rcases List.mem_cons.1 hl with e | e
    · rw [e]; exact h2 k (Nat.le_trans (Nat.le_max_right _ _) hk)
    · exact h1 k (Nat.le_trans (Nat.le_max_left _ _) hk) l e
theorem impl_AreCards.ev (n : Int) (L : List (List Int)) (hs : ∀ l ∈ L, l.length ≤ 1048576) : Ev (fun k => impl_AreCards.f k n L) (cardsB n L) := by
  unfold impl_AreCards.f
  refine Ev.ite (fun c => ?_) (fun c => Ev.val ?_)
  · obtain ⟨K, h⟩ := ev_allc (fun k l => impl_isCard.f k n l) (cardB n) L (fun l hl => impl_isCard.ev n c.1 c.2.1 l (hs l hl))
    refine ⟨K, fun k hk => ?_⟩
    show (if L.all (fun l => (impl_isCard.f k n l).isSome) = true then some (L.all fun l => (impl_isCard.f k n l).getD false) else none) = _
    rw [if_pos (List.all_eq_true.2 (fun l hl => by rw [h k hk l hl]; rfl)), cardsB]
    have e : (L.all fun l => (impl_isCard.f k n l).getD false) = L.all (cardB n) := by
      rw [Bool.eq_iff_iff, List.all_eq_true, List.all_eq_true]
      exact ⟨fun q l hl => by have := q l hl; rw [h k hk l hl] at this; exact this, fun q l hl => by rw [h k hk l hl]; exact q l hl⟩
    rw [e]
    unfold inB
    rw [decide_eq_true c.1, decide_eq_true c.2.1, decide_eq_true c.2.2]; rfl
  · symm
    rw [Bool.eq_false_iff]
    intro h
    have := cardsB_in h
    exact c ⟨this.1, this.2.1, this.2.2.1⟩
theorem clone_val (l : List Int) (hl : l.length ≤ 1048576) : slices_Clone_int_int.f l = some l := by
  unfold slices_Clone_int_int.f; rw [if_pos (by omega)]
theorem impl_Cards_own.ev_l (n : Int) (s : List (List Int)) : ∀ (p acc : List (List Int)), (∀ l ∈ s, l.length ≤ 1048576) → p.length + s.length ≤ 1048576 → acc.length + s.length ≤ 1048576 → Ev (fun k => impl_Cards_own.l0 k (p ++ s) ((p ++ s).length : Int) (p.length : Int) n acc) (n, acc ++ s) := by
  induction s with
  | nil =>
    intro p acc hs hp ha
    refine Ev.step (f := fun _ => some (n, acc)) (fun k => ?_) (Ev.val (by simp))
    rw [impl_Cards_own.l0, if_neg (by simp)]
  | cons l s ih =>
    intro p acc hs hp ha
    simp only [List.length_cons] at hp ha
    have hl := hs l (by simp)
    have h := ih (p ++ [l]) (acc ++ [l]) (fun x hx => hs x (by simp [hx])) (by simp; omega) (by simp; omega)
    refine Ev.step (f := fun k => impl_Cards_own.l0 k ((p ++ [l]) ++ s) (((p ++ [l]) ++ s).length : Int) ((p ++ [l]).length : Int) n (acc ++ [l])) (fun k => ?_) (Ev.eq h (by simp))
    rw [impl_Cards_own.l0, if_pos (by simp <;> omega), if_pos (by omega), if_pos (by simp <;> omega), show rd_L1 (p ++ l :: s) (p.length : Int) = l by simp [rd_L1, List.getD_eq_getElem?_getD], clone_val l hl, Option.bind_some, if_pos (by omega), w64 (by omega) (by omega)]
    simp
theorem impl_Cards_own.ev (n : Int) (L : List (List Int)) (hs : ∀ l ∈ L, l.length ≤ 1048576) (hL : L.length ≤ 1048576) : Ev (fun k => impl_Cards_own.f k n L) (n, L) := by
  have h := impl_Cards_own.ev_l n L [] [] hs (by simpa using hL) (by simpa using hL)
  unfold impl_Cards_own.f
  simpa using h
theorem spec_l1Own.val2 (l : List Int) (hl : l.length ≤ 1048576) : spec_l1Own.f l = some l := by
  unfold spec_l1Own.f
  rw [Option.bind_some, if_pos (by simp <;> omega)]; rfl
theorem spec_caOwn.ev_l (n : Int) (s : List (List Int)) : ∀ (p acc : List (List Int)), (∀ l ∈ s, l.length ≤ 1048576) → p.length + s.length ≤ 1048576 → acc.length + s.length ≤ 1048576 → Ev (fun k => spec_caOwn.l0 k (-1) (p ++ s) ((p ++ s).length : Int) (p.length : Int) n acc) (n, acc ++ s) := by
  induction s with
  | nil =>
    intro p acc hs hp ha
    refine Ev.step (f := fun _ => some (n, acc)) (fun k => ?_) (Ev.val (by simp))
    rw [spec_caOwn.l0, if_neg (by simp)]
  | cons l s ih =>
    intro p acc hs hp ha
    simp only [List.length_cons] at hp ha
    have hl := hs l (by simp)
    have h := ih (p ++ [l]) (acc ++ [l]) (fun x hx => hs x (by simp [hx])) (by simp; omega) (by simp; omega)
    refine Ev.step (f := fun k => spec_caOwn.l0 k (-1) ((p ++ [l]) ++ s) (((p ++ [l]) ++ s).length : Int) ((p ++ [l]).length : Int) n (acc ++ [l])) (fun k => ?_) (Ev.eq h (by simp))
    rw [spec_caOwn.l0, if_pos (by simp <;> omega), if_pos (by omega), if_pos (by simp <;> omega), if_neg (by omega), show rd_L1 (p ++ l :: s) (p.length : Int) = l by simp [rd_L1, List.getD_eq_getElem?_getD], spec_l1Own.val2 l hl, Option.bind_some, if_pos (by omega), w64 (by omega) (by omega)]
    simp
theorem spec_caOwn.ev (n : Int) (L : List (List Int)) (hs : ∀ l ∈ L, l.length ≤ 1048576) (hL : L.length ≤ 1048576) : Ev (fun k => spec_caOwn.f k n L (-1)) (n, L) := by
  have h := spec_caOwn.ev_l n L [] [] hs (by simpa using hL) (by simpa using hL)
  unfold spec_caOwn.f
  simpa using h
def eraseAt (s : List (List Int)) (m : Int) : List (List Int) := if 0 ≤ m then s.eraseIdx m.toNat else s
theorem eraseAt_zero (l : List Int) (s : List (List Int)) : eraseAt (l :: s) 0 = eraseAt s (-1) := rfl
theorem eraseAt_cons (l : List Int) (s : List (List Int)) (m : Int) (h : m ≠ 0) : eraseAt (l :: s) m = l :: eraseAt s (m - 1) := by
  unfold eraseAt
  by_cases c : 0 ≤ m
  · rw [if_pos c, if_pos (by omega), show m.toNat = (m - 1).toNat + 1 by omega]; rfl
  · rw [if_neg c, if_neg (by omega)]
theorem spec_caOwn.evE_l (n j : Int) (s : List (List Int)) : ∀ (p acc : List (List Int)), (∀ l ∈ s, l.length ≤ 1048576) → p.length + s.length ≤ 1048576 → acc.length + s.length ≤ 1048576 → Ev (fun k => spec_caOwn.l0 k j (p ++ s) ((p ++ s).length : Int) (p.length : Int) n acc) (n, acc ++ eraseAt s (j - p.length)) := by
  induction s with
  | nil =>
    intro p acc hs hp ha
    refine Ev.step (f := fun _ => some (n, acc)) (fun k => ?_) (Ev.val (by unfold eraseAt; simp))
    rw [spec_caOwn.l0, if_neg (by simp)]
  | cons l s ih =>
    intro p acc hs hp ha
    simp only [List.length_cons] at hp ha
    have hl := hs l (by simp)
    by_cases c : (p.length : Int) = j
    · have h := ih (p ++ [l]) acc (fun x hx => hs x (by simp [hx])) (by simp; omega) (by omega)
      refine Ev.step (f := fun k => spec_caOwn.l0 k j ((p ++ [l]) ++ s) (((p ++ [l]) ++ s).length : Int) ((p ++ [l]).length : Int) n acc) (fun k => ?_) (Ev.eq h ?_)
      · rw [spec_caOwn.l0, if_pos (by simp <;> omega), if_pos (by omega), if_pos (by simp <;> omega), if_pos c, w64 (by omega) (by omega)]
        simp
      · rw [show j - (p.length : Int) = 0 by omega, eraseAt_zero, show j - ((p ++ [l]).length : Int) = -1 by simp; omega]
    · have h := ih (p ++ [l]) (acc ++ [l]) (fun x hx => hs x (by simp [hx])) (by simp; omega) (by simp; omega)
      refine Ev.step (f := fun k => spec_caOwn.l0 k j ((p ++ [l]) ++ s) (((p ++ [l]) ++ s).length : Int) ((p ++ [l]).length : Int) n (acc ++ [l])) (fun k => ?_) (Ev.eq h ?_)
      · rw [spec_caOwn.l0, if_pos (by simp <;> omega), if_pos (by omega), if_pos (by simp <;> omega), if_neg c, show rd_L1 (p ++ l :: s) (p.length : Int) = l by simp [rd_L1, List.getD_eq_getElem?_getD], spec_l1Own.val2 l hl, Option.bind_some, if_pos (by omega), w64 (by omega) (by omega)]
        simp
      · rw [eraseAt_cons l s (j - p.length) (by omega), show j - ((p ++ [l]).length : Int) = j - p.length - 1 by simp; omega]
        simp
theorem spec_caOwn.evE (n : Int) (L : List (List Int)) (j : Int) (hs : ∀ l ∈ L, l.length ≤ 1048576) (hL : L.length ≤ 1048576) : Ev (fun k => spec_caOwn.f k n L j) (n, eraseAt L j) := by
  have h := spec_caOwn.evE_l n j L [] [] hs (by simpa using hL) (by simpa using hL)
  unfold spec_caOwn.f
  simpa using h
theorem impl_Cards_dropped.ev (n : Int) (L : List (List Int)) (j : Int) (hL : L.length ≤ 12) (hs : ∀ x ∈ L, x.length ≤ 1048576) (h0 : 0 ≤ j) (h1 : j < L.length) : Ev (fun k => impl_Cards_dropped.f k n L j) (n, L.eraseIdx j.toNat) :=
  Ev.bind (impl_Cards_own.ev n L hs (by omega)) (Ev.pos ⟨h0, h1, by show L.length ≤ 1000000; omega⟩ (Ev.val rfl))
def hasB (l : List Int) (x : Int) : Bool := l.any fun y => y == x
theorem spec_l1Has.ev_l (x : Int) (s : List Int) : ∀ (p : List Int), p.length + s.length ≤ 1048576 → Ev (fun k => spec_l1Has.l0 k x (p ++ s) ((p ++ s).length : Int) (p.length : Int)) (hasB s x) := by
  induction s with
  | nil =>
    intro p hp
    refine Ev.step (f := fun _ => some false) (fun k => ?_) (Ev.val rfl)
    rw [spec_l1Has.l0, if_neg (by simp)]
  | cons y s ih =>
    intro p hp
    simp only [List.length_cons] at hp
    by_cases c : y = x
    · refine Ev.step (f := fun _ => some true) (fun k => ?_) (Ev.val (by simp [hasB, c]))
      rw [spec_l1Has.l0, if_pos (by simp <;> omega), if_pos (by omega), if_pos (by simp <;> omega), rd_app, if_pos c]
    · have h := ih (p ++ [y]) (by simp; omega)
      refine Ev.step (f := fun k => spec_l1Has.l0 k x ((p ++ [y]) ++ s) (((p ++ [y]) ++ s).length : Int) ((p ++ [y]).length : Int)) (fun k => ?_) (Ev.eq h (by simp [hasB, c]))
      rw [spec_l1Has.l0, if_pos (by simp <;> omega), if_pos (by omega), if_pos (by simp <;> omega), rd_app, if_neg c, w64 (by omega) (by omega)]
      simp
theorem spec_l1Has.ev (l : List Int) (x : Int) (hl : l.length ≤ 1048576) : Ev (fun k => spec_l1Has.f k l x) (hasB l x) := by
  have h := spec_l1Has.ev_l x l [] (by simpa using hl)
  unfold spec_l1Has.f
  simpa using h
def ansI (L : List (List Int)) (x : Int) : List Int := L.map fun l => if hasB l x = true then 121 else 110
def ansB (L : List (List Int)) (x : Int) : ByteArray := strOfNums (ansI L x)
theorem ansB_size (L : List (List Int)) (x : Int) : (ansB L x).size = L.length := by rw [ansB, strOfNums_size]; simp [ansI]
theorem strOf_snoc (xs : List Int) (y : Int) (b : ByteArray) (h : b = ⟨#[UInt8.ofNat y.toNat]⟩) : strOfNums xs ++ b = strOfNums (xs ++ [y]) := by
  subst h
  apply ByteArray.ext
  simp [strOfNums]
theorem spec_caAnswers.ev_l (x : Int) (s : List (List Int)) : ∀ (p : List (List Int)) (acc : List Int), (∀ l ∈ s, l.length ≤ 1048576) → p.length + s.length ≤ 1048576 → acc.length + s.length ≤ 1048576 → Ev (fun k => spec_caAnswers.l0 k x (strOfNums acc) (p ++ s) ((p ++ s).length : Int) (p.length : Int)) (strOfNums (acc ++ ansI s x)) := by
  induction s with
  | nil =>
    intro p acc _ hp ha
    refine Ev.step (f := fun _ => some (strOfNums acc)) (fun k => ?_) (Ev.val (by simp [ansI]))
    rw [spec_caAnswers.l0, if_neg (by simp)]
  | cons y s ih =>
    intro p acc hs hp ha
    simp only [List.length_cons] at hp ha
    have hh := spec_l1Has.ev y x (hs y (by simp))
    have h1 := ih (p ++ [y]) (acc ++ [121]) (fun l hl => hs l (by simp [hl])) (by simp; omega) (by simp; omega)
    have h0 := ih (p ++ [y]) (acc ++ [110]) (fun l hl => hs l (by simp [hl])) (by simp; omega) (by simp; omega)
    rw [← strOf_snoc acc 121 (⟨#[121]⟩ : ByteArray) rfl] at h1
    rw [← strOf_snoc acc 110 (⟨#[110]⟩ : ByteArray) rfl] at h0
    refine Ev.step (f := fun k => (spec_l1Has.f k y x).bind fun t => if t = true then spec_caAnswers.l0 k x (strOfNums acc ++ (⟨#[121]⟩ : ByteArray)) ((p ++ [y]) ++ s) (((p ++ [y]) ++ s).length : Int) ((p ++ [y]).length : Int) else spec_caAnswers.l0 k x (strOfNums acc ++ (⟨#[110]⟩ : ByteArray)) ((p ++ [y]) ++ s) (((p ++ [y]) ++ s).length : Int) ((p ++ [y]).length : Int)) (fun k => ?_) (Ev.bind hh (Ev.ite (fun c => ?_) (fun c => ?_)))
    · have hsz : (strOfNums acc).size + 1 ≤ 9223372036854775807 := by rw [strOfNums_size]; omega
      rw [spec_caAnswers.l0, if_pos (by simp <;> omega), if_pos (by omega), if_pos (by simp <;> omega), rdL_app, w64 (by omega) (by omega)]
      simp only [if_pos hsz]
      simp
    · exact Ev.eq h1 (by simp [ansI, c])
    · exact Ev.eq h0 (by simp [ansI, c])
theorem spec_caAnswers.ev (n : Int) (L : List (List Int)) (x : Int) (hL : L.length ≤ 1048576) (hs : ∀ l ∈ L, l.length ≤ 1048576) : Ev (fun k => spec_caAnswers.f k n L x) (ansB L x) := by
  have h := spec_caAnswers.ev_l x L [] [] hs (by simpa using hL) (by simpa using hL)
  unfold spec_caAnswers.f
  simpa [ansB, strOfNums] using h
theorem strOf_get (xs : List Int) (i : Nat) (h : i < (strOfNums xs).size) (h2 : i < xs.length) : (strOfNums xs)[i]'h = UInt8.ofNat (xs[i]'h2).toNat := by
  show (strOfNums xs).data[i] = _
  simp [strOfNums]
theorem asciiB_ans (L : List (List Int)) (x : Int) : asciiB (ansB L x) = true := by
  unfold asciiB
  rw [List.all_eq_true]
  intro i hi
  have hi := List.mem_range.1 hi
  have h2 : i < (ansI L x).length := by rw [ansB, strOfNums_size] at hi; exact hi
  apply decide_eq_true
  unfold bt
  rw [dif_pos (by simpa using hi)]
  have e := strOf_get (ansI L x) i hi h2
  have hv : (ansI L x)[i] = 121 ∨ (ansI L x)[i] = 110 := by
    have hm : (ansI L x)[i] ∈ ansI L x := List.getElem_mem h2
    obtain ⟨l, _, e⟩ := List.mem_map.1 hm
    rw [← e]
    split <;> simp
  simp only [Int.toNat_natCast]
  show (((strOfNums (ansI L x))[i]).toNat : Int) < 128
  rw [e]
  rcases hv with hv | hv <;> rw [hv] <;> decide
def ap (a b : ByteArray) : Int := (apartN a b a.size).1
theorem apartN_pos (a b : ByteArray) : ∀ i, 0 < (apartN a b i).1 ↔ ∃ j : Nat, j < i ∧ bt a (j : Int) ≠ bt b (j : Int)
  | 0 => by simp [apartN]
  | i + 1 => by
    have ih := apartN_pos a b i
    have hn := apartN_in a b i
    unfold apartN
    split
    · rename_i h
      rw [ih]
      constructor
      · rintro ⟨j, hj, e⟩; exact ⟨j, by omega, e⟩
      · rintro ⟨j, hj, e⟩
        by_cases ej : j = i
        · subst ej; exact absurd h e
        · exact ⟨j, by omega, e⟩
    · rename_i h
      constructor
      · intro _; exact ⟨i, by omega, h⟩
      · intro _; simp; omega
theorem bt_nat (a : ByteArray) (j : Nat) (h : j < a.size) : bt a (j : Int) = ((a[j]'h).toNat : Int) := by
  unfold bt
  rw [dif_pos (by simpa using h)]
  simp only [Int.toNat_natCast]
theorem ap_pos (a b : ByteArray) (hs : a.size = b.size) : 0 < ap a b ↔ a ≠ b := by
  unfold ap
  rw [apartN_pos]
  constructor
  · rintro ⟨j, _, e⟩ rfl; exact e rfl
  · intro hne
    by_cases hex : ∃ j : Nat, j < a.size ∧ bt a (j : Int) ≠ bt b (j : Int)
    · exact hex
    · exfalso
      apply hne
      apply ByteArray.ext
      apply Array.ext
      · exact hs
      · intro i h1 h2
        by_cases e : bt a (i : Int) = bt b (i : Int)
        · rw [bt_nat a i h1, bt_nat b i h2] at e
          have e2 : (a[i]'h1).toNat = (b[i]'h2).toNat := by omega
          exact UInt8.toNat_inj.1 e2
        · exact absurd ⟨i, h1, e⟩ hex
def lmin (a : ByteArray) : List ByteArray → Int → Int
  | [], m => m
  | s :: r, m => lmin a r (if m < ap a s then m else ap a s)
theorem lmin_pos (a : ByteArray) : ∀ (bs : List ByteArray) (m : Int), 0 < lmin a bs m ↔ 0 < m ∧ ∀ s ∈ bs, 0 < ap a s
  | [], m => by simp [lmin]
  | s :: r, m => by
    rw [lmin, lmin_pos a r]
    have h : 0 < (if m < ap a s then m else ap a s) ↔ 0 < m ∧ 0 < ap a s := by split <;> omega
    rw [h]
    simp only [List.mem_cons, forall_eq_or_imp]
    constructor
    · rintro ⟨⟨h1, h2⟩, h3⟩; exact ⟨h1, h2, h3⟩
    · rintro ⟨h1, h2, h3⟩; exact ⟨⟨h1, h2⟩, h3⟩
theorem leastIn_val (a : ByteArray) (ha : a.size ≤ 1000000 ∧ asciiB a = true) : ∀ (bs : List ByteArray) (m : Int), (∀ s ∈ bs, s.size = a.size) → leastIn a bs m = some (lmin a bs m)
  | [], _, _ => rfl
  | s :: r, m, h => by
    rw [leastIn]
    have e : spec_caApart.f a s = some (apartN a s a.size) := by
      unfold spec_caApart.f
      rw [if_pos ⟨by rw [h s (by simp)]; exact Nat.le_refl _, ha.1, ha.2⟩]
    have e2 : spec_l1Least.f m (apartN a s a.size).1 = some (if m < ap a s then m else ap a s) := by
      unfold spec_l1Least.f
      show (if m < ap a s then some m else some (ap a s)) = _
      split <;> rfl
    rw [e, Option.bind_some, e2, Option.bind_some, leastIn_val a ha r _ (fun x hx => h x (by simp [hx]))]
    rfl
def allApart (L : List (List Int)) (m : Nat) : Prop := (List.range m).Pairwise fun (x y : Nat) => ansB L (x : Int) ≠ ansB L (y : Int)
instance (L : List (List Int)) (m : Nat) : Decidable (allApart L m) := by unfold allApart; infer_instance
def llB (L : List (List Int)) : Nat → Nat → Int → Int
  | 0, _, m => m
  | d + 1, i, m => llB L d (i + 1) (lmin (ansB L (i : Int)) ((List.range i).map fun (t : Nat) => ansB L (t : Int)) m)
theorem allApart_succ (L : List (List Int)) (i : Nat) : allApart L (i + 1) ↔ allApart L i ∧ ∀ t, t < i → ansB L (i : Int) ≠ ansB L (t : Int) := by
  unfold allApart
  rw [List.range_succ, List.pairwise_append]
  simp only [List.pairwise_cons, List.mem_singleton, List.not_mem_nil, List.mem_range, forall_eq]
  constructor
  · rintro ⟨h1, _, h2⟩; exact ⟨h1, fun t ht => (h2 t ht).symm⟩
  · rintro ⟨h1, h2⟩; exact ⟨h1, ⟨by simp, List.Pairwise.nil⟩, fun t ht => (h2 t ht).symm⟩
theorem llB_pos (L : List (List Int)) : ∀ (d i : Nat) (m : Int), (0 < m ↔ allApart L i) → (0 < llB L d i m ↔ allApart L (i + d))
  | 0, _, _, h => h
  | d + 1, i, m, h => by
    rw [llB, show i + (d + 1) = (i + 1) + d by omega]
    refine llB_pos L d (i + 1) _ ?_
    rw [lmin_pos, h, allApart_succ]
    constructor
    · rintro ⟨h1, h2⟩
      refine ⟨h1, fun t ht => ?_⟩
      have := h2 (ansB L (t : Int)) (List.mem_map.2 ⟨t, List.mem_range.2 ht, rfl⟩)
      exact (ap_pos _ _ (by rw [ansB_size, ansB_size])).1 this
    · rintro ⟨h1, h2⟩
      refine ⟨h1, fun s hs => ?_⟩
      obtain ⟨t, ht, rfl⟩ := List.mem_map.1 hs
      exact (ap_pos _ _ (by rw [ansB_size, ansB_size])).2 (h2 t (List.mem_range.1 ht))
theorem leastL.ev (n : Int) (L : List (List Int)) (hL : L.length ≤ 1000000) (hs : ∀ l ∈ L, l.length ≤ 1048576) : ∀ (d i : Nat) (m : Int), Ev (fun k => leastL k n L d (i : Int) ((List.range i).map fun (t : Nat) => ansB L (t : Int)) m) (llB L d i m)
  | 0, _, _ => Ev.val rfl
  | d + 1, i, m => by
    have h := leastL.ev n L hL hs d (i + 1) (lmin (ansB L (i : Int)) ((List.range i).map fun (t : Nat) => ansB L (t : Int)) m)
    refine Ev.bind (spec_caAnswers.ev n L (i : Int) (by omega) hs) ?_
    have e := leastIn_val (ansB L (i : Int)) ⟨by rw [ansB_size]; exact hL, asciiB_ans L _⟩ ((List.range i).map fun (t : Nat) => ansB L (t : Int)) m (fun s hs_ => by obtain ⟨t, _, rfl⟩ := List.mem_map.1 hs_; rw [ansB_size, ansB_size])
    refine Ev.bindc e ?_
    rw [List.range_succ, List.map_append, List.map_singleton] at h
    exact h
theorem spec_caLeast.ev (n : Int) (L : List (List Int)) (hn : n ≤ 1000000) (hL : L.length ≤ 1000000) (hs : ∀ l ∈ L, l.length ≤ 1048576) : Ev (fun k => spec_caLeast.f k n L) (llB L n.toNat 0 13) := by
  unfold spec_caLeast.f
  exact Ev.pos hn (leastL.ev n L hL hs n.toNat 0 13)
theorem llB_start (L : List (List Int)) (m : Nat) : 0 < llB L m 0 13 ↔ allApart L m := by
  have h := llB_pos L m 0 13 (by simp [allApart])
  rw [Nat.zero_add] at h
  exact h
theorem risesB_all : ∀ (s : List Int) (x : Int), risesB (x :: s) = true → (∀ y ∈ s, x < y) ∧ risesB s = true
  | [], _, _ => ⟨by simp, rfl⟩
  | y :: s, x, h => by
    simp only [risesB, Bool.and_eq_true, decide_eq_true_eq] at h
    obtain ⟨h1, h2⟩ := risesB_all s y h.2
    refine ⟨fun z hz => ?_, h.2⟩
    rcases List.mem_cons.1 hz with e | e
    · rw [e]; exact h.1
    · have := h1 z e; omega
theorem sortedP_rises : ∀ (s : List Int), risesB s = true → sortedP s = true
  | [], _ => rfl
  | x :: s, h => by
    obtain ⟨h1, h2⟩ := risesB_all s x h
    simp only [sortedP, Bool.and_eq_true, List.all_eq_true, decide_eq_true_eq]
    exact ⟨fun y hy => by have := h1 y hy; omega, sortedP_rises s h2⟩
theorem bsearch_val (l : List Int) (x : Int) (hs : sortedP l = true) (hl : l.length ≤ 1048576) : slices_BinarySearch_int_int.f l x = some (((l.countP (· < x) : Nat) : Int), hasB l x) := by
  unfold slices_BinarySearch_int_int.f
  rw [if_pos ⟨hs, by omega⟩]
  congr 2
  unfold hasB
  rw [List.contains_eq_any_beq]
  congr 1
  funext y
  by_cases e : x = y
  · subst e; rfl
  · rw [beq_eq_false_iff_ne.2 e, beq_eq_false_iff_ne.2 (Ne.symm e)]
theorem impl_Cards_answers.ev_l (x : Int) (s : List (List Int)) : ∀ (p : List (List Int)) (acc : List Int), (∀ l ∈ s, l.length ≤ 1048576 ∧ sortedP l = true) → p.length + s.length ≤ 1048576 → acc.length + s.length ≤ 1048576 → Ev (fun k => impl_Cards_answers.l0 k x acc (p ++ s) ((p ++ s).length : Int) (p.length : Int)) (strOfNums (acc ++ ansI s x)) := by
  induction s with
  | nil =>
    intro p acc _ hp ha
    refine Ev.step (f := fun _ => some (strOfNums acc)) (fun k => ?_) (Ev.val (by simp [ansI]))
    rw [impl_Cards_answers.l0, if_neg (by simp)]
  | cons y s ih =>
    intro p acc hs hp ha
    simp only [List.length_cons] at hp ha
    have hh := bsearch_val y x (hs y (by simp)).2 (hs y (by simp)).1
    have h1 := ih (p ++ [y]) (acc ++ [121]) (fun l hl => hs l (by simp [hl])) (by simp; omega) (by simp; omega)
    have h0 := ih (p ++ [y]) (acc ++ [110]) (fun l hl => hs l (by simp [hl])) (by simp; omega) (by simp; omega)
    refine Ev.step (f := fun k => if hasB y x = true then impl_Cards_answers.l0 k x (acc ++ [121]) ((p ++ [y]) ++ s) (((p ++ [y]) ++ s).length : Int) ((p ++ [y]).length : Int) else impl_Cards_answers.l0 k x (acc ++ [110]) ((p ++ [y]) ++ s) (((p ++ [y]) ++ s).length : Int) ((p ++ [y]).length : Int)) (fun k => ?_) (Ev.ite (fun c => ?_) (fun c => ?_))
    · have hsz : acc.length < 140737488355328 := by omega
      rw [impl_Cards_answers.l0, if_pos (by simp <;> omega), if_pos (by omega), if_pos (by simp <;> omega), rdL_app, hh, Option.bind_some, w64 (by omega) (by omega)]
      simp only [if_pos hsz]
      simp
    · exact Ev.eq h1 (by simp [ansI, c])
    · exact Ev.eq h0 (by simp [ansI, c])
theorem impl_Cards_answers.ev (n : Int) (L : List (List Int)) (x : Int) (hL : L.length ≤ 1048576) (hs : ∀ l ∈ L, l.length ≤ 1048576 ∧ sortedP l = true) : Ev (fun k => impl_Cards_answers.f k n L x) (ansB L x) := by
  have h := impl_Cards_answers.ev_l x L [] [] hs (by simpa using hL) (by simpa using hL)
  unfold impl_Cards_answers.f
  simpa [ansB] using h
theorem addKey_nodup : ∀ (xs L : List Lit), L.Nodup → (∀ x ∈ xs, WideAt.IsKeyLit x) → (xs.foldl Go.Maps.addKey L).length ≤ L.length + xs.length ∧ ((xs.foldl Go.Maps.addKey L).length = L.length + xs.length ↔ (L ++ xs).Nodup)
  | [], L, hL, _ => by simp [hL]
  | x :: r, L, hL, hk => by
    have hx := hk x (by simp)
    have hr : ∀ y ∈ r, WideAt.IsKeyLit y := fun y hy => hk y (by simp [hy])
    have hany : L.any (fun y => y.sameKey x) = true ↔ x ∈ L := by
      rw [List.any_eq_true]
      constructor
      · rintro ⟨y, hy, e⟩; rw [WideAt.sameKey_iff hx] at e; rw [← e]; exact hy
      · intro h; exact ⟨x, h, WideAt.sameKey_self hx⟩
    rw [List.foldl_cons]
    unfold Go.Maps.addKey
    by_cases c : x ∈ L
    · rw [if_pos (hany.2 c)]
      obtain ⟨h1, _⟩ := addKey_nodup r L hL hr
      unfold Go.Maps.addKey at h1
      refine ⟨by simp only [List.length_cons]; omega, ⟨fun h => by simp only [List.length_cons] at h; omega, fun h => ?_⟩⟩
      rw [List.nodup_append] at h
      exact absurd rfl (h.2.2 x c x (by simp))
    · rw [if_neg (fun h => c (hany.1 h))]
      have hL2 : (L ++ [x]).Nodup := by
        rw [List.nodup_append]
        exact ⟨hL, by simp, fun a ha b hb e => by rw [List.mem_singleton] at hb; subst hb; subst e; exact c ha⟩
      obtain ⟨h1, h2⟩ := addKey_nodup r (L ++ [x]) hL2 hr
      unfold Go.Maps.addKey at h1 h2
      simp only [List.length_append, List.length_singleton] at h1 h2
      rw [List.append_assoc, List.singleton_append] at h2
      refine ⟨by simp only [List.length_cons]; omega, ?_⟩
      rw [← h2]
      simp only [List.length_cons]
      omega
theorem tells_val (L : List (List Int)) (m : Nat) : (Maps.size (Go.Maps.setOf (H := Unit) (.lit (.bool true)) ((List.range m).map fun (x : Nat) => Lit.string (ansB L (x : Int)).data.toList)) = m ↔ allApart L m) := by
  rw [Go.Maps.size_setOf _ _ (fun x hx => by obtain ⟨t, _, rfl⟩ := List.mem_map.1 hx; trivial)]
  have h := (addKey_nodup ((List.range m).map fun (x : Nat) => Lit.string (ansB L (x : Int)).data.toList) [] List.nodup_nil (fun x hx => by obtain ⟨t, _, rfl⟩ := List.mem_map.1 hx; trivial)).2
  simp only [List.length_nil, Nat.zero_add, List.length_map, List.length_range, List.nil_append] at h
  rw [h]
  unfold List.Nodup allApart
  rw [List.pairwise_map]
  constructor
  · intro h; refine h.imp ?_; intro a b hab e; exact hab (by rw [e])
  · intro h; refine h.imp ?_
    intro a b hab e
    injection e with e
    exact hab (ByteArray.ext (Array.toList_inj.1 e))
theorem impl_Cards_tellsAll.ev (n : Int) (L : List (List Int)) (hn : 0 ≤ n ∧ n ≤ 1000000) (hL : L.length ≤ 1000000) (hs : ∀ l ∈ L, l.length ≤ 1048576 ∧ sortedP l = true) : Ev (fun k => impl_Cards_tellsAll.f k n L) (decide (allApart L n.toNat)) := by
  obtain ⟨m, rfl⟩ := Int.eq_ofNat_of_zero_le hn.1
  obtain ⟨K, h⟩ := ev_allc (fun k (i : Nat) => impl_Cards_answers.f k m L (i : Int)) (fun (i : Nat) => ansB L (i : Int)) (List.range m) (fun i _ => impl_Cards_answers.ev _ _ _ (by omega) hs)
  refine ⟨K, fun k hk => ?_⟩
  show impl_Cards_tellsAll.f k m L = _
  have e : ∀ i, i < m → tellsStr k m L i = ansB L (i : Int) := fun i hi => by unfold tellsStr; rw [h k hk i (List.mem_range.2 hi)]; rfl
  have e2 : tellsKeys k m L m = (List.range m).map fun (x : Nat) => Lit.string (ansB L (x : Int)).data.toList := by
    unfold tellsKeys
    refine List.map_congr_left (fun i hi => ?_)
    rw [e i (List.mem_range.1 hi)]
  have hok : tellsOk k m L = true := by
    unfold tellsOk
    rw [Int.toNat_natCast, List.all_eq_true]
    intro i hi
    rw [e i (List.mem_range.1 hi), h k hk i hi, ansB_size]
    simp [hL]
  unfold impl_Cards_tellsAll.f
  rw [if_pos ⟨hn.1, hn.2, hok⟩, Int.toNat_natCast]
  unfold tellsSet
  rw [e2]
  have hv := tells_val L m
  by_cases c : allApart L m
  · rw [hv.2 c, decide_eq_true c]; simp
  · rw [decide_eq_false c]
    congr 1
    rw [beq_eq_false_iff_ne]
    intro q
    exact c (hv.1 (by omega))
def needB (n : Int) (L : List (List Int)) (j : Int) : Bool := decide (allApart (L.eraseIdx j.toNat) n.toNat)
def needlessB (n : Int) (L : List (List Int)) : List Int × Bool := if cardsB n L = true then (selL (needB n L) L.length, true) else ([], false)
theorem needlessB_length (n : Int) (L : List (List Int)) (hL : L.length ≤ 1048576) : (needlessB n L).1.length ≤ 1048576 := by
  unfold needlessB
  split
  · exact Nat.le_trans (selL_length _ _) hL
  · simp
theorem erase_mem {L : List (List Int)} {j : Nat} {l : List Int} (h : l ∈ L.eraseIdx j) : l ∈ L := List.mem_of_mem_eraseIdx h
theorem cards_sorted {n : Int} {L : List (List Int)} (h : cardsB n L = true) : ∀ l ∈ L, sortedP l = true := by
  intro l hl
  have h2 := List.all_eq_true.1 (cardsB_in h).2.2.2 l hl
  unfold cardB at h2
  rw [Bool.and_eq_true] at h2
  exact sortedP_rises l h2.2
theorem impl_NeedlessCards.ev (n : Int) (L : List (List Int)) (hL : L.length ≤ 1048576) (hs : ∀ l ∈ L, l.length ≤ 1048576) : Ev (fun k => impl_NeedlessCards.f k n L) (needlessB n L) := by
  refine Ev.bind (impl_AreCards.ev n L hs) (Ev.ite (fun c => ?_) (fun c => Ev.val (by rw [needlessB, if_neg c])))
  have hd := cardsB_in c
  obtain ⟨K, h⟩ := ev_allc (fun k (i : Nat) => needO k n L (i : Int)) (fun (i : Nat) => needB n L (i : Int)) (List.range L.length) (fun i hi => by
    have hi := List.mem_range.1 hi
    refine Ev.bind (impl_Cards_dropped.ev n L (i : Int) hd.2.2.1 hs (by omega) (by omega)) ?_
    refine impl_Cards_tellsAll.ev n _ (by omega) ?_ (fun l hl => ⟨hs l (erase_mem hl), cards_sorted c l (erase_mem hl)⟩)
    have := List.length_eraseIdx_le L (i : Int).toNat
    show (L.eraseIdx (i : Int).toNat).length ≤ 1000000
    omega)
  refine ⟨K, fun k hk => ?_⟩
  show (if _ then _ else _) = _
  rw [if_pos ⟨by omega, List.all_eq_true.2 (fun i hi => by rw [h k hk i hi]; rfl)⟩, needlessB, if_pos c]
  congr 2
  unfold selL
  refine List.filter_congr (fun x hx => ?_)
  obtain ⟨i, hi, rfl⟩ := List.mem_map.1 hx
  unfold needP
  rw [h k hk i hi]; rfl
theorem spec_NeedlessCards.ev_l (n : Int) (L : List (List Int)) (hn : 0 ≤ n ∧ n ≤ 1000000) (hL : L.length ≤ 1000000) (hs : ∀ l ∈ L, l.length ≤ 1048576) : ∀ (d i : Nat), i + d = L.length → Ev (fun k => spec_NeedlessCards.l0 k (selL (needB n L) i) (L.length : Int) (i : Int) n L) (selL (needB n L) L.length, true)
  | 0, i, hd => by
    refine Ev.step (f := fun _ => some (selL (needB n L) i, true)) (fun k => ?_) (Ev.val (by rw [show i = L.length by omega]))
    rw [spec_NeedlessCards.l0, if_neg (by omega)]
  | d + 1, i, hd => by
    have h := spec_NeedlessCards.ev_l n L hn hL hs d (i + 1) (by omega)
    have ho := spec_caOwn.evE n L (i : Int) hs (by omega)
    have hE : eraseAt L (i : Int) = L.eraseIdx i := by unfold eraseAt; rw [if_pos (by omega)]; rfl
    rw [hE] at ho
    have hlen : (L.eraseIdx i).length ≤ 1000000 := Nat.le_trans (List.length_eraseIdx_le L i) hL
    have hl := spec_caLeast.ev n (L.eraseIdx i) hn.2 hlen (fun l hl => hs l (erase_mem hl))
    have hp := llB_start (L.eraseIdx i) n.toNat
    have hb : needB n L (i : Int) = decide (allApart (L.eraseIdx i) n.toNat) := rfl
    have hss := selL_succ (needB n L) i
    have hlen2 := selL_length (needB n L) i
    have hw : wrap64 ((i : Int) + 1) = ((i + 1 : Nat) : Int) := by rw [w64 (by omega) (by omega)]; omega
    refine Ev.step (f := fun k => (spec_caOwn.f k n L (i : Int)).bind fun b => (spec_caLeast.f k b.1 b.2).bind fun t => if t > 0 then spec_NeedlessCards.l0 k (selL (needB n L) i ++ [(i : Int)]) (L.length : Int) ((i + 1 : Nat) : Int) n L else spec_NeedlessCards.l0 k (selL (needB n L) i) (L.length : Int) ((i + 1 : Nat) : Int) n L) (fun k => ?_) (Ev.bind ho (Ev.bind hl (Ev.ite (fun c => ?_) (fun c => ?_))))
    · rw [spec_NeedlessCards.l0, if_pos (by omega), hw]
      have hq : (selL (needB n L) i).length < 17592186044416 := by omega
      simp only [if_pos hq]
    · rw [hb, decide_eq_true (hp.1 c), if_pos rfl] at hss
      rw [hss] at h; exact h
    · rw [hb, decide_eq_false (fun q => c (hp.2 q)), if_neg (by decide), List.append_nil] at hss
      rw [hss] at h; exact h
theorem spec_NeedlessCards.ev (n : Int) (L : List (List Int)) (hL : L.length ≤ 1048576) (hs : ∀ l ∈ L, l.length ≤ 1048576) : Ev (fun k => spec_NeedlessCards.f k n L) (needlessB n L) := by
  refine Ev.bind (spec_caGood.ev n L hL hs) (Ev.ite (fun c => ?_) (fun c => Ev.val (by rw [needlessB, if_neg c])))
  have hd := cardsB_in c
  have h := spec_NeedlessCards.ev_l n L (by omega) (by omega) hs L.length 0 (by omega)
  rw [needlessB, if_pos c]
  simpa [selL] using h
theorem FnExactNeedlessCards : laws_FnExactNeedlessCards.Pure := by
  intro n L _ hL hLs
  refine Ev.rounds (g := fun k => laws_FnExactNeedlessCards.f k n L) ?_
  unfold laws_FnExactNeedlessCards.f
  refine Ev.bind (laws_szCards.ev n L hL hLs) (Ev.ite (fun _ => Ev.val rfl) (fun hd => ?_))
  obtain ⟨h2, h3⟩ := szC_in hd
  have h1 := laws_toCards.ev n L h2 h3
  have hR := needlessB_length n L h2
  have hs := spec_NeedlessCards.ev n L h2 h3
  have hi := impl_NeedlessCards.ev n L h2 h3
  generalize needlessB n L = R at *
  have heP := laws_eqCards.same n L h3 h2
  have ht2 := tot_nonneg L
  refine Ev.bind h1 (Ev.bind hs (Ev.bind hi (Ev.bind (laws_eqIntS.ev R.1 R.1 (by omega)) (Ev.bind heP (Ev.bind (laws_markCards.ev n L h3 h2) (Ev.bind (laws_markIntS.ev R.1 (by omega)) (Ev.bind (laws_heldIntS.ev R.1.length (by omega)) (Ev.pos ?_ (Ev.val rfl)))))))))
  exact ⟨by simp, rfl, rfl, by show 0 ≤ 1 + tot L; omega, by omega, rfl⟩
end Go.Proofs.Ytfiikhdkohgmfaa.Pure
