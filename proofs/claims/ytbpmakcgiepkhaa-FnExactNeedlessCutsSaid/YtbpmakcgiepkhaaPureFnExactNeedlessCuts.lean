/- For all arguments within the row's reach the law FnExactNeedlessCuts answers true.
No further conditions. -/
import Derived.Test.YtbpmakcgiepkhaaPFnExactNeedlessCutsx0
import Derived.Test.YtbpmakcgiepkhaaPFnExactNeedlessCutsx1
import Derived.Test.YtbpmakcgiepkhaaPFnExactNeedlessCutsx2
import Derived.Test.YtbpmakcgiepkhaaPFnExactNeedlessCutsx3
import Derived.Test.YtbpmakcgiepkhaaPFnExactNeedlessCutsx4
import Derived.Test.YtbpmakcgiepkhaaPFnExactNeedlessCutsx5
import Derived.Test.YtbpmakcgiepkhaaPFnExactNeedlessCutsx6
set_option linter.unusedVariables false
set_option linter.unusedSimpArgs false
namespace Go.Proofs.Ytbpmakcgiepkhaa.Pure
open Go.RowKit Go.Proofs.Ytbpmakcgiepkhaa.PFnExactNeedlessCuts Go.Proofs.YtbpmakcgiepkhaaW.PrintWords Go.Proofs.YtbpmakcgiepkhaaW.PrintLast Go.Proofs.YtbpmakcgiepkhaaW.PrintMore
theorem Ev.pos {α : Type} {c : Prop} [Decidable c] {g f : Nat → Option α} {r : α} (hc : c) (h : Ev g r) : Ev (fun k => if c then g k else f k) r := by
  obtain ⟨K, h⟩ := h
  exact ⟨K, fun k hk => by show (if c then g k else f k) = _; rw [if_pos hc]; exact h k hk⟩
theorem Ev.neg {α : Type} {c : Prop} [Decidable c] {g f : Nat → Option α} {r : α} (hc : ¬ c) (h : Ev f r) : Ev (fun k => if c then g k else f k) r := by
  obtain ⟨K, h⟩ := h
  exact ⟨K, fun k hk => by show (if c then g k else f k) = _; rw [if_neg hc]; exact h k hk⟩
theorem Ev.val {α : Type} {a r : α} (h : a = r) : Ev (fun _ => some a) r := ⟨0, fun _ _ => by rw [h]⟩
theorem Ev.const {α : Type} {a : Option α} {r : α} (h : a = some r) : Ev (fun _ => a) r := ⟨0, fun _ _ => h⟩
theorem Ev.bindc {α β : Type} {a : Option α} {f : Nat → α → Option β} {x : α} {r : β} (h : a = some x) (k : Ev (fun n => f n x) r) : Ev (fun n => a.bind (f n)) r := by
  obtain ⟨K, k⟩ := k
  exact ⟨K, fun n hn => by show a.bind (f n) = _; rw [h]; exact k n hn⟩
theorem Ev.eq {α : Type} {g : Nat → Option α} {r r' : α} (h : Ev g r) (e : r = r') : Ev g r' := e ▸ h
def inB (a b c : Int) : Bool := decide (b ≤ a) && decide (a ≤ c)
theorem Ev.ite {α : Type} {c : Prop} [Decidable c] {g f : Nat → Option α} {r : α} (h : c → Ev g r) (h' : ¬ c → Ev f r) : Ev (fun k => if c then g k else f k) r := by
  by_cases hc : c
  · exact Ev.pos hc (h hc)
  · exact Ev.neg hc (h' hc)
theorem rd_eq (l : List Int) (i : Nat) (h : i < l.length) : rd l (i : Int) = l[i] := by simp [rd, List.getD_eq_getElem?_getD, List.getElem?_eq_getElem h]
theorem rd_app (p : List Int) (x : Int) (s : List Int) : rd (p ++ x :: s) (p.length : Int) = x := by simp [rd, List.getD_eq_getElem?_getD]
theorem w64 {n : Int} (h0 : -9223372036854775808 ≤ n) (h1 : n ≤ 9223372036854775807) : wrap64 n = n := by unfold wrap64; omega
theorem laws_toIntS.ev_l (l : List Int) (hl : l.length ≤ 35184372088832) (d : Nat) : ∀ (acc : List Int) (i : Nat), acc.length = l.length → i + d = l.length → (∀ j, j < i → acc[j]? = l[j]?) → Ev (fun k => laws_toIntS.l0 k l acc (i : Int)) l := by
  induction d with
  | zero =>
    intro acc i ha hi hj
    refine Ev.step (f := fun _ => some acc) (fun k => ?_) (Ev.val ?_)
    · rw [laws_toIntS.l0, if_neg (by omega)]
    · apply List.ext_getElem?
      intro j
      by_cases h : j < i
      · exact hj j h
      · rw [List.getElem?_eq_none (by omega), List.getElem?_eq_none (by omega)]
  | succ d ih =>
    intro acc i ha hi hj
    have hlt : i < l.length := by omega
    refine Ev.step (f := fun k => laws_toIntS.l0 k l (acc.set i l[i]) ((i + 1 : Nat) : Int)) (fun k => ?_) (ih (acc.set i l[i]) (i + 1) (by simp [ha]) (by omega) ?_)
    · rw [laws_toIntS.l0, if_pos (by omega), if_pos (by omega), if_pos (by omega), w64 (by omega) (by omega), rd_eq l i hlt]
      simp
    · intro j hj'
      by_cases e : j = i
      · subst e; rw [List.getElem?_set_self (by omega), List.getElem?_eq_getElem hlt]
      · rw [List.getElem?_set_ne (by omega)]; exact hj j (by omega)
theorem laws_toIntS.ev (l : List Int) (hl : l.length ≤ 35184372088832) : Ev (fun k => laws_toIntS.f k l) l := by
  have h := laws_toIntS.ev_l l hl l.length (List.replicate l.length 0) 0 (by simp) (by omega) (fun j hj => absurd hj (by omega))
  refine Ev.congr (fun k => ?_) h
  simp only [laws_toIntS.f]
  rw [if_pos (by omega), if_pos (by omega)]
  simp
theorem laws_eqIntS.ev_l (s t : List Int) (hl : s.length ≤ 35184372088832) : ∀ (p : List Int), p.length + s.length ≤ 35184372088832 → s.length = t.length → ∀ q : List Int, q.length = p.length → Ev (fun k => laws_eqIntS.l0 k (p ++ s) (q ++ t) (p.length : Int)) (decide (s = t)) := by
  induction s generalizing t with
  | nil =>
    intro p hp ht q hq
    obtain rfl : t = [] := List.eq_nil_of_length_eq_zero (by simpa using ht.symm)
    refine Ev.step (f := fun _ => some true) (fun k => ?_) (Ev.val (by simp))
    rw [laws_eqIntS.l0, if_neg (by simp)]
  | cons x s ih =>
    intro p hp ht q hq
    obtain _ | ⟨y, t⟩ := t
    · simp at ht
    simp only [List.length_cons] at ht hp hl
    have e1 : rd (p ++ x :: s) (p.length : Int) = x := rd_app p x s
    have e2 : rd (q ++ y :: t) (p.length : Int) = y := by rw [← hq]; exact rd_app q y t
    by_cases e : x = y
    · subst e
      have h := ih t (by omega) (p ++ [x]) (by simp <;> omega) (by omega) (q ++ [x]) (by simp [hq])
      refine Ev.step (f := fun k => laws_eqIntS.l0 k ((p ++ [x]) ++ s) ((q ++ [x]) ++ t) ((p ++ [x]).length : Int)) (fun k => ?_) (Ev.eq h (by simp))
      rw [laws_eqIntS.l0, if_pos (by simp <;> omega), if_pos (by omega), if_pos (by simp <;> omega), e1, e2, if_pos rfl, w64 (by omega) (by omega)]
      simp
    · refine Ev.step (f := fun _ => some false) (fun k => ?_) (Ev.val (by simp [e]))
      rw [laws_eqIntS.l0, if_pos (by simp <;> omega), if_pos (by omega), if_pos (by simp <;> omega), e1, e2, if_neg e]
theorem laws_eqIntS.ev (s t : List Int) (hl : s.length ≤ 35184372088832) : Ev (fun k => laws_eqIntS.f k s t) (decide (s = t)) := by
  unfold laws_eqIntS.f
  refine Ev.ite (fun h => ?_) (fun h => Ev.val ?_)
  · exact laws_eqIntS.ev_l s t hl [] (by simpa using hl) (by omega) [] rfl
  · have : s ≠ t := by rintro rfl; exact h rfl
    simp [this]
theorem spec_l1In.val (a b c : Int) : spec_l1In.f a b c = some (decide (b ≤ a) && decide (a ≤ c)) := by
  unfold spec_l1In.f
  by_cases h : a ≥ b
  · rw [if_pos h]; simp [show b ≤ a from h]
  · rw [if_neg h]; simp [show ¬ b ≤ a from h]
theorem spec_l1In.valB (a b c : Int) : spec_l1In.f a b c = some (inB a b c) := spec_l1In.val a b c
theorem impl_within.val (a b c : Int) : impl_within.f a b c = some (decide (b ≤ a) && decide (a ≤ c)) := by
  unfold impl_within.f
  by_cases h : b ≤ a
  · rw [if_pos h]; simp [h]
  · rw [if_neg h]; simp [h]
theorem impl_within.valB (a b c : Int) : impl_within.f a b c = some (inB a b c) := impl_within.val a b c
/-- No element is less than the one before. -/
def sortedB : List Int → Bool
  | [] => true
  | [_] => true
  | x :: y :: s => decide (x ≤ y) && sortedB (y :: s)
theorem sortedB_iff (l : List Int) : sortedB l = true ↔ ∀ i : Nat, ∀ h : i + 1 < l.length, l[i] ≤ l[i + 1] := by
  induction l with
  | nil => simp [sortedB]
  | cons x s ih =>
    cases s with
    | nil => simp [sortedB]
    | cons y s =>
      simp only [sortedB, Bool.and_eq_true, decide_eq_true_eq, ih]
      constructor
      · rintro ⟨h1, h2⟩ i hi
        cases i with
        | zero => exact h1
        | succ i => exact h2 i (by simpa using hi)
      · intro h
        exact ⟨h 0 (by simp), fun i hi => h (i + 1) (by simpa using hi)⟩
theorem impl_areWithin.val (l : List Int) (a b : Int) : impl_areWithin.f l a b = some (l.all fun x => decide (a ≤ x) && decide (x ≤ b)) := rfl
theorem ite_and (t x : Bool) : (if t = true then some x else some false) = some (t && x) := by cases t <;> rfl
def clueB (k a b : Int) : Bool :=
  if k = 0 then inB a 0 4 && b == 0
  else if k = 1 then inB a 0 24 && b == 0
  else if k = 3 then inB a 0 24 && b == 0
  else if k = 2 then inB a 0 24 && inB b 0 1
  else if k = 4 then inB a 0 24 && inB b 0 16
  else if k = 5 then inB a 1 6 && inB b 0 4
  else false
/-- Each element is greater than the one before. -/
def risesB : List Int → Bool
  | [] => true
  | [_] => true
  | x :: y :: s => decide (x < y) && risesB (y :: s)
theorem spec_l1Rising.ev_l (a b : Int) (s : List Int) : ∀ (p : List Int) (x : Int), p.length + s.length + 1 ≤ 9223372036854775806 → Ev (fun k => spec_l1Rising.l0 k (p ++ x :: s) a b (p ++ x :: s) ((p ++ x :: s).length : Int) ((p.length + 1 : Nat) : Int)) ((s.all fun x => inB x a b) && risesB (x :: s)) := by
  induction s with
  | nil =>
    intro p x hp
    refine Ev.step (f := fun _ => some true) (fun k => ?_) (Ev.val (by simp [risesB]))
    rw [spec_l1Rising.l0, if_neg (by simp)]
  | cons y s ih =>
    intro p x hp
    simp only [List.length_cons] at hp
    have e1 : rd (p ++ x :: y :: s) (p.length : Int) = x := rd_app p x _
    have e2 : rd (p ++ x :: y :: s) ((p.length + 1 : Nat) : Int) = y := by
      have := rd_app (p ++ [x]) y s
      simpa using this
    have hw : wrap64 (((p.length + 1 : Nat) : Int) - 1) = (p.length : Int) := by rw [w64 (by omega) (by omega)]; omega
    have h := ih (p ++ [x]) y (by simp <;> omega)
    by_cases c : inB y a b = true
    · by_cases c2 : x < y
      · refine Ev.step (f := fun k => spec_l1Rising.l0 k ((p ++ [x]) ++ y :: s) a b ((p ++ [x]) ++ y :: s) (((p ++ [x]) ++ y :: s).length : Int) (((p ++ [x]).length + 1 : Nat) : Int)) (fun k => ?_) (Ev.eq h (by simp only [List.all_cons, c, risesB, c2, decide_true, Bool.true_and]))
        rw [spec_l1Rising.l0, if_pos (by simp <;> omega), if_pos (by omega), if_pos (by simp <;> omega), e2, spec_l1In.valB, Option.bind_some, if_pos c, if_pos (by omega), hw, if_pos (by omega), if_pos (by simp <;> omega), e1, if_neg (by omega), w64 (by omega) (by omega)]
        simp
      · refine Ev.step (f := fun _ => some false) (fun k => ?_) (Ev.val (by simp [risesB, c2]))
        rw [spec_l1Rising.l0, if_pos (by simp <;> omega), if_pos (by omega), if_pos (by simp <;> omega), e2, spec_l1In.valB, Option.bind_some, if_pos c, if_pos (by omega), hw, if_pos (by omega), if_pos (by simp <;> omega), e1, if_pos (by omega)]
    · refine Ev.step (f := fun _ => some false) (fun k => ?_) (Ev.val (by simp only [List.all_cons]; rw [Bool.not_eq_true] at c; rw [c]; rfl))
      rw [spec_l1Rising.l0, if_pos (by simp <;> omega), if_pos (by omega), if_pos (by simp <;> omega), e2, spec_l1In.valB, Option.bind_some, if_neg c]
theorem spec_l1Rising.ev (l : List Int) (a b : Int) (hl : l.length ≤ 9223372036854775806) : Ev (fun k => spec_l1Rising.f k l a b) ((l.all fun x => inB x a b) && risesB l) := by
  unfold spec_l1Rising.f
  cases l with
  | nil =>
    refine Ev.step (f := fun _ => some true) (fun k => ?_) (Ev.val (by simp [risesB]))
    rw [spec_l1Rising.l0, if_neg (by simp)]
  | cons x s =>
    have h := spec_l1Rising.ev_l a b s [] x (by simpa using hl)
    simp only [List.length_cons] at hl
    have e1 : rd (x :: s) 0 = x := by simp [rd]
    by_cases c : inB x a b = true
    · refine Ev.step (f := fun k => spec_l1Rising.l0 k (x :: s) a b (x :: s) ((x :: s).length : Int) ((([] : List Int).length + 1 : Nat) : Int)) (fun k => ?_) (Ev.eq h (by simp [c]))
      rw [spec_l1Rising.l0, if_pos (by simp <;> omega), if_pos (by omega), if_pos (by simp <;> omega), e1, spec_l1In.valB, Option.bind_some, if_pos c, if_neg (by omega), w64 (by omega) (by omega)]
      simp
    · refine Ev.step (f := fun _ => some false) (fun k => ?_) (Ev.val (by simp only [List.all_cons]; rw [Bool.not_eq_true] at c; rw [c]; rfl))
      rw [spec_l1Rising.l0, if_pos (by simp <;> omega), if_pos (by omega), if_pos (by simp <;> omega), e1, spec_l1In.valB, Option.bind_some, if_neg c]
theorem impl_rises.ev_l (s : List Int) : ∀ (p : List Int) (x : Int), p.length + s.length + 1 ≤ 9223372036854775806 → Ev (fun k => impl_rises.l0 k (p ++ x :: s) ((p.length + 1 : Nat) : Int)) (risesB (x :: s)) := by
  induction s with
  | nil =>
    intro p x hp
    refine Ev.step (f := fun _ => some true) (fun k => ?_) (Ev.val (by simp [risesB]))
    rw [impl_rises.l0, if_neg (by simp)]
  | cons y s ih =>
    intro p x hp
    simp only [List.length_cons] at hp
    have e1 : rd (p ++ x :: y :: s) (p.length : Int) = x := rd_app p x _
    have e2 : rd (p ++ x :: y :: s) ((p.length + 1 : Nat) : Int) = y := by
      have := rd_app (p ++ [x]) y s
      simpa using this
    have hw : wrap64 (((p.length + 1 : Nat) : Int) - 1) = (p.length : Int) := by rw [w64 (by omega) (by omega)]; omega
    by_cases c : x < y
    · have h := ih (p ++ [x]) y (by simp <;> omega)
      refine Ev.step (f := fun k => impl_rises.l0 k ((p ++ [x]) ++ y :: s) (((p ++ [x]).length + 1 : Nat) : Int)) (fun k => ?_) (Ev.eq h (by simp [risesB, c]))
      rw [impl_rises.l0, if_pos (by simp <;> omega), hw, if_pos (by omega), if_pos (by simp <;> omega), if_pos (by omega), e1, e2, if_neg (by omega), w64 (by omega) (by omega)]
      simp
    · refine Ev.step (f := fun _ => some false) (fun k => ?_) (Ev.val (by simp [risesB, c]))
      rw [impl_rises.l0, if_pos (by simp <;> omega), hw, if_pos (by omega), if_pos (by simp <;> omega), if_pos (by omega), e1, e2, if_pos (by omega)]
theorem impl_rises.ev (l : List Int) (hl : l.length ≤ 9223372036854775806) : Ev (fun k => impl_rises.f k l) (risesB l) := by
  unfold impl_rises.f
  cases l with
  | nil =>
    refine Ev.step (f := fun _ => some true) (fun k => ?_) (Ev.val (by simp [risesB]))
    rw [impl_rises.l0, if_neg (by simp)]
  | cons x s => exact impl_rises.ev_l s [] x (by simp at hl ⊢; omega)
def ruGoodB (l : List Int) : Bool := decide (2 ≤ l.length) && ((l.all fun x => inB x 0 60) && risesB l) && rd l 0 == 0
theorem risesB_head {x : Int} {s : List Int} (h : risesB (x :: s) = true) : ∀ y ∈ s, x < y := by
  induction s generalizing x with
  | nil => simp
  | cons z s ih =>
    simp only [risesB, Bool.and_eq_true, decide_eq_true_eq] at h
    intro y hy
    rcases List.mem_cons.1 hy with rfl | hy
    · exact h.1
    · have := ih h.2 y hy; omega
theorem risesB_last {l : List Int} (h : risesB l = true) (hne : l ≠ []) : ∀ y ∈ l, y ≤ l.getLast hne := by
  induction l with
  | nil => exact absurd rfl hne
  | cons x s ih =>
    intro y hy
    cases s with
    | nil => simp at hy; simp [hy]
    | cons z s =>
      have h2 : risesB (z :: s) = true := by simp only [risesB, Bool.and_eq_true] at h; exact h.2
      rw [List.getLast_cons (by simp)]
      rcases List.mem_cons.1 hy with rfl | hy
      · have h1 := risesB_head h z (by simp)
        have := ih h2 (by simp) z (by simp)
        omega
      · exact ih h2 (by simp) y hy
theorem rd_last (x : Int) (s : List Int) : rd (x :: s) (s.length : Int) = (x :: s).getLast (by simp) := by
  rw [List.getLast_eq_getElem, rd_eq (x :: s) s.length (by simp)]
  simp
def numsFrom : Nat → Int → List Int
  | 0, _ => []
  | n + 1, m => m :: numsFrom n (m + 1)
theorem rd_set (p : List Int) (x y : Int) (s : List Int) : (p ++ x :: s).set (p.length : Int).toNat y = p ++ y :: s := by
  rw [Int.toNat_natCast, List.set_append_right _ _ (Nat.le_refl _)]; simp
theorem laws_markIntS.ev_l (s : List Int) : ∀ (p : List Int) (a : Int), p.length + s.length ≤ 1000000000000000000 → 0 ≤ a → a + s.length ≤ 4000000000000000000 → Ev (fun k => laws_markIntS.l0 k (p ++ s) a (p.length : Int)) (a + s.length, p ++ numsFrom s.length a) := by
  induction s with
  | nil =>
    intro p a hp h0 h1
    refine Ev.step (f := fun _ => some (a, p ++ [])) (fun k => ?_) (Ev.val (by simp [numsFrom]))
    rw [laws_markIntS.l0, if_neg (by simp)]
  | cons x s ih =>
    intro p a hp h0 h1
    simp only [List.length_cons] at hp h1
    have h := ih (p ++ [a]) (a + 1) (by simp; omega) (by omega) (by omega)
    refine Ev.step (f := fun k => laws_markIntS.l0 k ((p ++ [a]) ++ s) (a + 1) ((p ++ [a]).length : Int)) (fun k => ?_) (Ev.eq h ?_)
    · rw [laws_markIntS.l0, if_pos (by simp <;> omega), if_pos (by omega), rd_set, w64 (n := a + 1) (by omega) (by omega), w64 (by omega) (by omega)]
      simp
    · simp [numsFrom]; omega
theorem laws_markIntS.ev (l : List Int) (hl : l.length ≤ 1000000000000000000) : Ev (fun k => laws_markIntS.f k l 1) ((1 + l.length : Int), numsFrom l.length 1) := by
  unfold laws_markIntS.f
  exact laws_markIntS.ev_l l [] 1 (by simpa using hl) (by omega) (by omega)
theorem laws_heldIntS.ev_l : ∀ (n : Nat) (p : List Int) (a : Int), p.length + n ≤ 1000000000000000000 → 0 ≤ a → a + n ≤ 4000000000000000000 → Ev (fun k => laws_heldIntS.l0 k (p ++ numsFrom n a) a (p.length : Int)) (a + n) := by
  intro n
  induction n with
  | zero =>
    intro p a hp h0 h1
    refine Ev.step (f := fun _ => some a) (fun k => ?_) (Ev.val (by simp))
    rw [laws_heldIntS.l0, if_neg (by simp [numsFrom])]
  | succ n ih =>
    intro p a hp h0 h1
    have h := ih (p ++ [a]) (a + 1) (by simp; omega) (by omega) (by omega)
    refine Ev.step (f := fun k => laws_heldIntS.l0 k ((p ++ [a]) ++ numsFrom n (a + 1)) (a + 1) ((p ++ [a]).length : Int)) (fun k => ?_) (Ev.eq h (by omega))
    simp only [numsFrom]
    rw [laws_heldIntS.l0, if_pos (by simp <;> omega), if_pos (by omega), rd_app, if_pos rfl, w64 (n := a + 1) (by omega) (by omega), w64 (by omega) (by omega)]
    simp
theorem laws_heldIntS.ev (n : Nat) (hn : n ≤ 1000000000000000000) : Ev (fun k => laws_heldIntS.f k (numsFrom n 1) 1) (1 + n : Int) := by
  unfold laws_heldIntS.f
  exact laws_heldIntS.ev_l n [] 1 (by simpa using hn) (by omega) (by omega)
/-- A table of N values. -/
def tab (N : Nat) (f : Int → Int) : List Int := (List.range N).map fun (i : Nat) => f (i : Int)
theorem tab_length (N : Nat) (f : Int → Int) : (tab N f).length = N := by simp [tab]
theorem rd_tab (N : Nat) (f : Int → Int) (i : Int) (h0 : 0 ≤ i) (h1 : i < N) : rd (tab N f) i = f i := by
  obtain ⟨n, rfl⟩ := Int.eq_ofNat_of_zero_le h0
  rw [rd_eq _ _ (by rw [tab_length]; omega)]
  simp [tab]
theorem tab_congr (N : Nat) (f g : Int → Int) (h : ∀ i : Int, 0 ≤ i → i < N → f i = g i) : tab N f = tab N g := by
  unfold tab
  apply List.map_congr_left
  intro i hi
  exact h i (by omega) (by have := List.mem_range.1 hi; omega)
theorem tab_set (N : Nat) (f : Int → Int) (i : Int) (v : Int) (h0 : 0 ≤ i) : (tab N f).set i.toNat v = tab N (fun j => if j = i then v else f j) := by
  obtain ⟨n, rfl⟩ := Int.eq_ofNat_of_zero_le h0
  apply List.ext_getElem?
  intro j
  unfold tab
  by_cases hj : j < N
  · by_cases e : n = j
    · subst e
      simp [hj]
    · rw [List.getElem?_set_ne (by simpa using e)]
      simp [hj]
      omega
  · rw [List.getElem?_eq_none (by simp; omega), List.getElem?_eq_none (by simp; omega)]
/-- How many ways there are to make s of some of the pieces. -/
def cnt : List Int → Int → Int
  | [], s => if s = 0 then 1 else 0
  | x :: t, s => cnt t s + cnt t (s - x)
theorem cnt_snoc (l : List Int) (n s : Int) : cnt (l ++ [n]) s = cnt l s + cnt l (s - n) := by
  induction l generalizing s with
  | nil => simp [cnt]
  | cons x t ih =>
    simp only [List.cons_append, cnt, ih]
    rw [show s - x - n = s - n - x by omega]; omega
theorem cnt_nonneg (l : List Int) (s : Int) : 0 ≤ cnt l s := by
  induction l generalizing s with
  | nil => unfold cnt; split <;> omega
  | cons x t ih => have h1 := ih s; have h2 := ih (s - x); unfold cnt; omega
theorem cnt_le (l : List Int) (s : Int) : cnt l s ≤ 2 ^ l.length := by
  induction l generalizing s with
  | nil => unfold cnt; split <;> simp
  | cons x t ih =>
    have h1 := ih s; have h2 := ih (s - x)
    unfold cnt
    rw [List.length_cons, Int.pow_succ]; omega
theorem cnt_neg (l : List Int) (hl : ∀ x ∈ l, 0 ≤ x) (s : Int) (h : s < 0) : cnt l s = 0 := by
  induction l generalizing s with
  | nil => unfold cnt; rw [if_neg (by omega)]
  | cons x t ih =>
    have hx := hl x (by simp)
    unfold cnt
    rw [ih (fun y hy => hl y (by simp [hy])) s h, ih (fun y hy => hl y (by simp [hy])) (s - x) (by omega)]; rfl
theorem sum_nonneg (l : List Int) (hl : ∀ x ∈ l, 0 ≤ x) : 0 ≤ l.sum := by
  induction l with
  | nil => simp
  | cons x t ih =>
    have hx := hl x (by simp)
    have := ih (fun y hy => hl y (by simp [hy]))
    rw [List.sum_cons]; omega
theorem cnt_above (l : List Int) (hl : ∀ x ∈ l, 0 ≤ x) (s : Int) (h : l.sum < s) : cnt l s = 0 := by
  induction l generalizing s with
  | nil => unfold cnt; rw [if_neg (by simp at h; omega)]
  | cons x t ih =>
    have hx := hl x (by simp)
    rw [List.sum_cons] at h
    unfold cnt
    rw [ih (fun y hy => hl y (by simp [hy])) s (by omega), ih (fun y hy => hl y (by simp [hy])) (s - x) (by omega)]; rfl
theorem pow_le_20 {n : Nat} (h : n ≤ 20) : (2 : Int) ^ n ≤ 1048576 := by
  have : (2 : Nat) ^ n ≤ 2 ^ 20 := Nat.pow_le_pow_right (by omega) h
  have e : ((2 : Int) ^ n) = ((2 ^ n : Nat) : Int) := by simp
  rw [e]; omega
theorem sum_le (l : List Int) (B : Int) (hl : ∀ x ∈ l, x ≤ B) : l.sum ≤ l.length * B := by
  induction l with
  | nil => simp
  | cons x t ih =>
    have hx := hl x (by simp)
    have := ih (fun y hy => hl y (by simp [hy]))
    rw [List.sum_cons, List.length_cons]
    have e : ((t.length + 1 : Nat) : Int) * B = t.length * B + B := by
      rw [show ((t.length + 1 : Nat) : Int) = (t.length : Int) + 1 by omega, Int.add_mul]; omega
    omega
/-- Up to where all sums can be made of pieces in order. -/
def runL : List Int → Int → Int
  | [], a => a
  | x :: t, a => if x > a + 1 then a else runL t (a + x)
theorem impl_run.ev_l (s : List Int) : ∀ (p : List Int) (a : Int), p.length + s.length ≤ 1000000000 → 0 ≤ a → (∀ x ∈ s, 0 ≤ x) → a + s.sum ≤ 1000000000 → Ev (fun k => impl_run.l0 k a (p ++ s) ((p ++ s).length : Int) (p.length : Int)) (runL s a) := by
  induction s with
  | nil =>
    intro p a hp h0 hs hsum
    refine Ev.step (f := fun _ => some a) (fun k => ?_) (Ev.val (by simp [runL]))
    rw [impl_run.l0, if_neg (by simp)]
  | cons x s ih =>
    intro p a hp h0 hs hsum
    simp only [List.length_cons] at hp
    rw [List.sum_cons] at hsum
    have hx := hs x (by simp)
    have hs' : ∀ y ∈ s, 0 ≤ y := fun y hy => hs y (by simp [hy])
    have hsn := sum_nonneg s hs'
    have h := ih (p ++ [x]) (a + x) (by simp <;> omega) (by omega) hs' (by omega)
    by_cases c : x > a + 1
    · refine Ev.step (f := fun _ => some a) (fun k => ?_) (Ev.val (by rw [runL, if_pos c]))
      rw [impl_run.l0, if_pos (by simp <;> omega), if_pos (by omega), if_pos (by simp <;> omega), rd_app, w64 (n := a + 1) (by omega) (by omega), if_pos c]
    · refine Ev.step (f := fun k => impl_run.l0 k (a + x) ((p ++ [x]) ++ s) (((p ++ [x]) ++ s).length : Int) ((p ++ [x]).length : Int)) (fun k => ?_) (Ev.eq h (by rw [runL, if_neg c]))
      rw [impl_run.l0, if_pos (by simp <;> omega), if_pos (by omega), if_pos (by simp <;> omega), rd_app, w64 (n := a + 1) (by omega) (by omega), if_neg c, w64 (n := a + x) (by omega) (by omega), w64 (by omega) (by omega)]
      simp
theorem impl_run.ev (l : List Int) (hl : l.length ≤ 1000000000) (h0 : ∀ x ∈ l, 0 ≤ x) (hs : l.sum ≤ 1000000000) : Ev (fun k => impl_run.f k l) (runL l 0) := by
  exact impl_run.ev_l l [] 0 (by simpa using hl) (by omega) h0 (by omega)
theorem spec_piRun.ev_l (s : List Int) : ∀ (p : List Int) (a : Int), p.length + s.length ≤ 1000000000 → 0 ≤ a → (∀ x ∈ s, 0 ≤ x) → a + s.sum ≤ 1000000000 → Ev (fun k => spec_piRun.l0 k a (p ++ s) ((p ++ s).length : Int) (p.length : Int)) (runL s a) := by
  induction s with
  | nil =>
    intro p a hp h0 hs hsum
    refine Ev.step (f := fun _ => some a) (fun k => ?_) (Ev.val (by simp [runL]))
    rw [spec_piRun.l0, if_neg (by simp)]
  | cons x s ih =>
    intro p a hp h0 hs hsum
    simp only [List.length_cons] at hp
    rw [List.sum_cons] at hsum
    have hx := hs x (by simp)
    have hs' : ∀ y ∈ s, 0 ≤ y := fun y hy => hs y (by simp [hy])
    have hsn := sum_nonneg s hs'
    have h := ih (p ++ [x]) (a + x) (by simp <;> omega) (by omega) hs' (by omega)
    by_cases c : x > a + 1
    · refine Ev.step (f := fun _ => some a) (fun k => ?_) (Ev.val (by rw [runL, if_pos c]))
      rw [spec_piRun.l0, if_pos (by simp <;> omega), if_pos (by omega), if_pos (by simp <;> omega), rd_app, w64 (n := a + 1) (by omega) (by omega), if_pos c]
    · refine Ev.step (f := fun k => spec_piRun.l0 k (a + x) ((p ++ [x]) ++ s) (((p ++ [x]) ++ s).length : Int) ((p ++ [x]).length : Int)) (fun k => ?_) (Ev.eq h (by rw [runL, if_neg c]))
      rw [spec_piRun.l0, if_pos (by simp <;> omega), if_pos (by omega), if_pos (by simp <;> omega), rd_app, w64 (n := a + 1) (by omega) (by omega), if_neg c, w64 (n := a + x) (by omega) (by omega), w64 (by omega) (by omega)]
      simp
theorem spec_piRun.ev (l : List Int) (hl : l.length ≤ 1000000000) (h0 : ∀ x ∈ l, 0 ≤ x) (hs : l.sum ≤ 1000000000) : Ev (fun k => spec_piRun.f k l) (runL l 0) := by
  exact spec_piRun.ev_l l [] 0 (by simpa using hl) (by omega) h0 (by omega)
/-- What a clue of a kind tells of pieces. -/
def pzV (kind a : Int) (l : List Int) : Int :=
  if kind = 0 then (l.length : Int) else if kind = 1 then l.sum else if kind = 2 then (if cnt l a < 1 then cnt l a else 1) else if kind = 3 then runL l 0 else if kind = 4 then cnt l a else (l.count a : Int)
/-- The integers in order. -/
def sortL (l : List Int) : List Int := l.mergeSort fun x y => decide (x ≤ y)
theorem perm_sorted_eq : ∀ (a b : List Int), a.Perm b → a.Pairwise (fun x y => x ≤ y) → b.Pairwise (fun x y => x ≤ y) → a = b
  | [], b, h, _, _ => (List.nil_perm.1 h).symm
  | x :: a, [], h, _, _ => absurd h.length_eq (by simp)
  | x :: a, y :: b, h, ha, hb => by
    rw [List.pairwise_cons] at ha hb
    have hy : y ∈ x :: a := h.symm.subset (by simp)
    have hx : x ∈ y :: b := h.subset (by simp)
    have e : x = y := by
      rcases List.mem_cons.1 hy with e1 | e1
      · exact e1.symm
      · rcases List.mem_cons.1 hx with e2 | e2
        · exact e2
        · have := ha.1 y e1; have := hb.1 x e2; omega
    subst e
    rw [perm_sorted_eq a b (List.Perm.cons_inv h) ha.2 hb.2]
theorem sortL_perm (l : List Int) : (sortL l).Perm l := List.mergeSort_perm l _
theorem sortL_sorted (l : List Int) : (sortL l).Pairwise (fun x y => x ≤ y) := by
  have h := List.pairwise_mergeSort (le := fun x y : Int => decide (x ≤ y)) (fun a b c h1 h2 => by simp at *; omega) (fun a b => by simp; omega) l
  exact h.imp (fun h => of_decide_eq_true h)
theorem sortL_length (l : List Int) : (sortL l).length = l.length := (sortL_perm l).length_eq
/-- The pieces along a chain. -/
def partsL (links : Int) : List Int → Int → List Int
  | [], n => if n < links then [links - n] else []
  | c :: s, n => if n < c then (c - n) :: 1 :: partsL links s (c + 1) else 1 :: partsL links s (c + 1)
theorem partsL_length (links : Int) : ∀ (s : List Int) (n : Int), (partsL links s n).length ≤ 2 * s.length + 1
  | [], n => by rw [partsL]; split <;> simp
  | c :: s, n => by
    have := partsL_length links s (c + 1)
    rw [partsL]
    split <;> simp <;> omega
theorem partsL_pos (links : Int) (hl : 1 ≤ links) (s : List Int) : 0 < (partsL links s 0).length := by
  cases s with
  | nil => rw [partsL, if_pos (by omega)]; simp
  | cons c s => rw [partsL]; split <;> simp
theorem partsL_ge (links : Int) : ∀ (s : List Int) (n : Int), (∀ x ∈ partsL links s n, 1 ≤ x)
  | [], n, x, hx => by
    rw [partsL] at hx
    split at hx
    · simp at hx; omega
    · simp at hx
  | c :: s, n, x, hx => by
    have := partsL_ge links s (c + 1)
    rw [partsL] at hx
    split at hx
    · simp at hx
      rcases hx with h | h | h
      · omega
      · omega
      · exact this x h
    · simp at hx
      rcases hx with h | h
      · omega
      · exact this x h
theorem partsL_le (links : Int) (hl : links ≤ 1000) : ∀ (s : List Int) (n : Int), 0 ≤ n → (∀ x ∈ s, 0 ≤ x ∧ x ≤ 1000) → (∀ x ∈ partsL links s n, x ≤ 1000)
  | [], n, hn, hs, x, hx => by
    rw [partsL] at hx
    split at hx
    · simp at hx; omega
    · simp at hx
  | c :: s, n, hn, hs, x, hx => by
    have hc := hs c (by simp)
    have := partsL_le links hl s (c + 1) (by omega) (fun y hy => hs y (by simp [hy]))
    rw [partsL] at hx
    split at hx
    · simp at hx
      rcases hx with h | h | h
      · omega
      · omega
      · exact this x h
    · simp at hx
      rcases hx with h | h
      · omega
      · exact this x h
theorem impl_parts.ev_l (links : Int) (h1 : 0 ≤ links) (h2 : links ≤ 1000) (s : List Int) : ∀ (p acc : List Int) (n : Int), p.length + s.length ≤ 1000000 → acc.length + 2 * s.length + 1 ≤ 1000000 → 0 ≤ n → n ≤ 1001 → (∀ x ∈ s, 0 ≤ x ∧ x ≤ 1000) → Ev (fun k => impl_parts.l0 k links acc n (p ++ s) ((p ++ s).length : Int) (p.length : Int)) (acc ++ partsL links s n) := by
  induction s with
  | nil =>
    intro p acc n hp ha h0 hn hs
    by_cases c : n < links
    · refine Ev.step (f := fun _ => some (acc ++ [links - n])) (fun k => ?_) (Ev.val (by rw [partsL, if_pos c]))
      rw [impl_parts.l0, if_neg (by simp), if_pos c, if_pos (by simp at ha; omega), w64 (by omega) (by omega)]
    · refine Ev.step (f := fun _ => some acc) (fun k => ?_) (Ev.val (by rw [partsL, if_neg c, List.append_nil]))
      rw [impl_parts.l0, if_neg (by simp), if_neg c]
  | cons x s ih =>
    intro p acc n hp ha h0 hn hs
    simp only [List.length_cons] at hp ha
    have hx := hs x (by simp)
    have hs' : ∀ y ∈ s, 0 ≤ y ∧ y ≤ 1000 := fun y hy => hs y (by simp [hy])
    by_cases c : n < x
    · have h := ih (p ++ [x]) (acc ++ [x - n] ++ [1]) (x + 1) (by simp <;> omega) (by simp <;> omega) (by omega) (by omega) hs'
      refine Ev.step (f := fun k => impl_parts.l0 k links (acc ++ [x - n] ++ [1]) (x + 1) ((p ++ [x]) ++ s) (((p ++ [x]) ++ s).length : Int) ((p ++ [x]).length : Int)) (fun k => ?_) (Ev.eq h (by rw [partsL, if_pos c]; simp))
      rw [impl_parts.l0, if_pos (by simp <;> omega), if_pos (by omega), if_pos (by simp <;> omega), rd_app, if_pos c, if_pos (by omega), Option.bind_some, w64 (n := x - n) (by omega) (by omega), if_pos (by simp <;> omega), w64 (n := x + 1) (by omega) (by omega), w64 (by omega) (by omega)]
      simp
    · have h := ih (p ++ [x]) (acc ++ [1]) (x + 1) (by simp <;> omega) (by simp <;> omega) (by omega) (by omega) hs'
      refine Ev.step (f := fun k => impl_parts.l0 k links (acc ++ [1]) (x + 1) ((p ++ [x]) ++ s) (((p ++ [x]) ++ s).length : Int) ((p ++ [x]).length : Int)) (fun k => ?_) (Ev.eq h (by rw [partsL, if_neg c]; simp))
      rw [impl_parts.l0, if_pos (by simp <;> omega), if_pos (by omega), if_pos (by simp <;> omega), rd_app, if_neg c, if_pos (by omega), w64 (n := x + 1) (by omega) (by omega), w64 (by omega) (by omega)]
      simp
theorem impl_parts.ev (links : Int) (h1 : 0 ≤ links) (h2 : links ≤ 1000) (l : List Int) (hl : l.length ≤ 9) (hs : ∀ x ∈ l, 0 ≤ x ∧ x ≤ 1000) : Ev (fun k => impl_parts.f k links l) (partsL links l 0) :=
  impl_parts.ev_l links h1 h2 l [] [] 0 (by simp <;> omega) (by simp <;> omega) (by omega) (by omega) hs
theorem spec_chParts.ev_l (links : Int) (h1 : 0 ≤ links) (h2 : links ≤ 1000) (s : List Int) : ∀ (p acc : List Int) (n : Int), p.length + s.length ≤ 1000000 → acc.length + 2 * s.length + 1 ≤ 1000000 → 0 ≤ n → n ≤ 1001 → (∀ x ∈ s, 0 ≤ x ∧ x ≤ 1000) → Ev (fun k => spec_chParts.l0 k links acc n (p ++ s) ((p ++ s).length : Int) (p.length : Int)) (acc ++ partsL links s n) := by
  induction s with
  | nil =>
    intro p acc n hp ha h0 hn hs
    by_cases c : n < links
    · refine Ev.step (f := fun _ => some (acc ++ [links - n])) (fun k => ?_) (Ev.val (by rw [partsL, if_pos c]))
      rw [spec_chParts.l0, if_neg (by simp), if_pos c, if_pos (by simp at ha; omega), w64 (by omega) (by omega)]
    · refine Ev.step (f := fun _ => some acc) (fun k => ?_) (Ev.val (by rw [partsL, if_neg c, List.append_nil]))
      rw [spec_chParts.l0, if_neg (by simp), if_neg c]
  | cons x s ih =>
    intro p acc n hp ha h0 hn hs
    simp only [List.length_cons] at hp ha
    have hx := hs x (by simp)
    have hs' : ∀ y ∈ s, 0 ≤ y ∧ y ≤ 1000 := fun y hy => hs y (by simp [hy])
    by_cases c : n < x
    · have h := ih (p ++ [x]) (acc ++ [x - n] ++ [1]) (x + 1) (by simp <;> omega) (by simp <;> omega) (by omega) (by omega) hs'
      refine Ev.step (f := fun k => spec_chParts.l0 k links (acc ++ [x - n] ++ [1]) (x + 1) ((p ++ [x]) ++ s) (((p ++ [x]) ++ s).length : Int) ((p ++ [x]).length : Int)) (fun k => ?_) (Ev.eq h (by rw [partsL, if_pos c]; simp))
      rw [spec_chParts.l0, if_pos (by simp <;> omega), if_pos (by omega), if_pos (by simp <;> omega), rd_app, if_pos c, if_pos (by omega), Option.bind_some, w64 (n := x - n) (by omega) (by omega), if_pos (by simp <;> omega), w64 (n := x + 1) (by omega) (by omega), w64 (by omega) (by omega)]
      simp
    · have h := ih (p ++ [x]) (acc ++ [1]) (x + 1) (by simp <;> omega) (by simp <;> omega) (by omega) (by omega) hs'
      refine Ev.step (f := fun k => spec_chParts.l0 k links (acc ++ [1]) (x + 1) ((p ++ [x]) ++ s) (((p ++ [x]) ++ s).length : Int) ((p ++ [x]).length : Int)) (fun k => ?_) (Ev.eq h (by rw [partsL, if_neg c]; simp))
      rw [spec_chParts.l0, if_pos (by simp <;> omega), if_pos (by omega), if_pos (by simp <;> omega), rd_app, if_neg c, if_pos (by omega), w64 (n := x + 1) (by omega) (by omega), w64 (by omega) (by omega)]
      simp
theorem spec_chParts.ev (links : Int) (h1 : 0 ≤ links) (h2 : links ≤ 1000) (l : List Int) (hl : l.length ≤ 9) (hs : ∀ x ∈ l, 0 ≤ x ∧ x ≤ 1000) : Ev (fun k => spec_chParts.f k links l) (partsL links l 0) :=
  spec_chParts.ev_l links h1 h2 l [] [] 0 (by simp <;> omega) (by simp <;> omega) (by omega) (by omega) hs
theorem spec_l1Own.val (l : List Int) (hl : l.length ≤ 1000000) : spec_l1Own.f l = some l := by
  unfold spec_l1Own.f
  rw [Option.bind_some, if_pos (by simp <;> omega)]; rfl
theorem spec_piPut.ev_l (l : List Int) (n : Int) (hl : l.length ≤ 100000) : ∀ (k : Nat), k ≤ l.length → (∀ x ∈ l.drop k, n < x) → ∃ r, Ev (fun m => spec_piPut.l0 m l n (k : Int)) r ∧ r.Perm (n :: l) ∧ (l.Pairwise (fun x y => x ≤ y) → r.Pairwise (fun x y => x ≤ y))
  | 0, _, hd => by
    refine ⟨n :: l, ?_, List.Perm.refl _, fun h => List.pairwise_cons.2 ⟨fun y hy => by have := hd y (by simpa using hy); omega, h⟩⟩
    refine Ev.step (f := fun _ => some (n :: l)) (fun k => ?_) (Ev.val rfl)
    rw [spec_piPut.l0, if_neg (by omega), if_pos (by omega), if_pos (by omega)]
    simp only [Int.toNat_natCast, List.take_zero, List.drop_zero]
    rw [spec_l1Own.val [] (by simp), Option.bind_some, Option.bind_some, if_pos (by simp), Option.bind_some, if_pos (by simp <;> omega)]
    rfl
  | k + 1, hk, hd => by
    have hw : wrap64 (((k + 1 : Nat) : Int) - 1) = (k : Int) := by rw [w64 (by omega) (by omega)]; omega
    have hr : rd l (k : Int) = l[k] := rd_eq l k (by omega)
    by_cases c : l[k] > n
    · obtain ⟨r, h1, h2, h3⟩ := spec_piPut.ev_l l n hl k (by omega) (fun x hx => by
        rw [List.drop_eq_getElem_cons (by omega)] at hx
        rcases List.mem_cons.1 hx with e | e
        · rw [e]; exact c
        · exact hd x e)
      refine ⟨r, Ev.step (f := fun m => spec_piPut.l0 m l n (k : Int)) (fun m => ?_) h1, h2, h3⟩
      rw [spec_piPut.l0, if_pos (by omega), hw, if_pos (by omega), if_pos (by omega), hr, if_pos c]
    · refine ⟨l.take (k + 1) ++ n :: l.drop (k + 1), ?_, ?_, ?_⟩
      · refine Ev.step (f := fun _ => some (l.take (k + 1) ++ n :: l.drop (k + 1))) (fun m => ?_) (Ev.val rfl)
        rw [spec_piPut.l0, if_pos (by omega), hw, if_pos (by omega), if_pos (by omega), hr, if_neg c, if_pos (by omega), if_pos (by omega)]
        simp only [Int.toNat_natCast]
        rw [spec_l1Own.val _ (by simp <;> omega), Option.bind_some, Option.bind_some, if_pos (by simp <;> omega), Option.bind_some, if_pos (by simp <;> omega)]
        simp
      · refine List.perm_middle.trans ?_
        rw [List.take_append_drop]
      · intro h
        have h0 := h
        rw [← List.take_append_drop (k + 1) l, List.pairwise_append] at h0
        obtain ⟨ha, hb, _⟩ := h0
        rw [List.pairwise_append, List.pairwise_cons]
        have hA : ∀ x ∈ l.take (k + 1), x ≤ n := by
          intro x hx
          rw [List.take_succ_eq_append_getElem (by omega)] at hx ha
          rcases List.mem_append.1 hx with e | e
          · have := (List.pairwise_append.1 ha).2.2 x e l[k] (by simp); omega
          · rw [List.mem_singleton.1 e]; omega
        refine ⟨ha, ⟨fun y hy => by have := hd y hy; omega, hb⟩, fun x hx y hy => ?_⟩
        have h5 := hA x hx
        rcases List.mem_cons.1 hy with e | e
        · rw [e]; exact h5
        · have := hd y e; omega
theorem spec_piPut.ev (l : List Int) (n : Int) (hl : l.length ≤ 100000) : ∃ r, Ev (fun m => spec_piPut.f m l n) r ∧ r.Perm (n :: l) ∧ (l.Pairwise (fun x y => x ≤ y) → r.Pairwise (fun x y => x ≤ y)) :=
  spec_piPut.ev_l l n hl l.length (Nat.le_refl _) (fun x hx => by simp at hx)
theorem spec_chSorted.ev_l (s : List Int) : ∀ (p acc : List Int), p.length + s.length ≤ 1000000 → acc.length + s.length ≤ 100000 → acc.Pairwise (fun x y => x ≤ y) → ∃ r, Ev (fun k => spec_chSorted.l0 k acc (p ++ s) ((p ++ s).length : Int) (p.length : Int)) r ∧ r.Perm (acc ++ s) ∧ r.Pairwise (fun x y => x ≤ y) := by
  induction s with
  | nil =>
    intro p acc hp ha hs
    refine ⟨acc, Ev.step (f := fun _ => some acc) (fun k => ?_) (Ev.val rfl), by simp, hs⟩
    rw [spec_chSorted.l0, if_neg (by simp)]
  | cons x s ih =>
    intro p acc hp ha hs
    simp only [List.length_cons] at hp ha
    obtain ⟨q, q1, q2, q3⟩ := spec_piPut.ev acc x (by omega)
    have ql := q2.length_eq
    simp only [List.length_cons] at ql
    obtain ⟨r, h1, h2, h3⟩ := ih (p ++ [x]) q (by simp <;> omega) (by omega) (q3 hs)
    refine ⟨r, ?_, h2.trans ((q2.append_right s).trans (by simp [List.perm_middle.symm])), h3⟩
    refine Ev.step (f := fun k => (spec_piPut.f k acc x).bind fun t => spec_chSorted.l0 k t ((p ++ [x]) ++ s) (((p ++ [x]) ++ s).length : Int) ((p ++ [x]).length : Int)) (fun k => ?_) (Ev.bind q1 h1)
    rw [spec_chSorted.l0, if_pos (by simp <;> omega), if_pos (by omega), if_pos (by simp <;> omega), rd_app, w64 (by omega) (by omega)]
    simp
theorem spec_chSorted.ev (l : List Int) (hl : l.length ≤ 100000) : Ev (fun k => spec_chSorted.f k l) (sortL l) := by
  obtain ⟨r, h1, h2, h3⟩ := spec_chSorted.ev_l l [] [] (by simp <;> omega) (by simp <;> omega) List.Pairwise.nil
  exact Ev.eq h1 (perm_sorted_eq _ _ (h2.trans ((sortL_perm l).symm.trans (by simp))) h3 (sortL_sorted l))
def piecesB (links : Int) (l : List Int) : List Int := sortL (partsL links l 0)
theorem piecesB_length (links : Int) (l : List Int) (hl : l.length ≤ 9) : (piecesB links l).length ≤ 19 := by
  have := partsL_length links l 0
  rw [piecesB, sortL_length]; omega
theorem piecesB_in (links : Int) (h2 : links ≤ 1000) (l : List Int) (hs : ∀ x ∈ l, 0 ≤ x ∧ x ≤ 1000) : ∀ x ∈ piecesB links l, 1 ≤ x ∧ x ≤ 1000 := fun x hx =>
  have hx' := (sortL_perm _).subset hx
  ⟨partsL_ge links l 0 x hx', partsL_le links h2 l 0 (by omega) hs x hx'⟩
theorem spec_chPieces.ev (links : Int) (h1 : 0 ≤ links) (h2 : links ≤ 1000) (l : List Int) (hl : l.length ≤ 9) (hs : ∀ x ∈ l, 0 ≤ x ∧ x ≤ 1000) : Ev (fun k => spec_chPieces.f k links l) (piecesB links l) := by
  have := partsL_length links l 0
  exact Ev.bind (spec_chParts.ev links h1 h2 l hl hs) (Ev.bind (spec_chSorted.ev _ (by omega)) (Ev.val rfl))
theorem impl_pieces.ev (links : Int) (h1 : 1 ≤ links) (h2 : links ≤ 1000) (l : List Int) (hl : l.length ≤ 9) (hs : ∀ x ∈ l, 0 ≤ x ∧ x ≤ 1000) : Ev (fun k => impl_pieces.f k links l) (piecesB links l) := by
  have := partsL_length links l 0
  exact Ev.bind (impl_parts.ev links (by omega) h2 l hl hs) (Ev.pos (partsL_pos links h1 l) (Ev.pos (by omega) (Ev.val rfl)))
def cutsB (a : Int) (l : List Int) : Bool := inB a 1 1000 && (decide (l.length ≤ 9) && ((l.all fun x => inB x 0 (a - 1)) && risesB l))
theorem cutsB_in {a : Int} {l : List Int} (h : cutsB a l = true) : 1 ≤ a ∧ a ≤ 1000 ∧ l.length ≤ 9 ∧ ∀ x ∈ l, 0 ≤ x ∧ x ≤ a - 1 := by
  unfold cutsB inB at h
  simp at h
  exact ⟨h.1.1, h.1.2, h.2.1, h.2.2.1⟩
theorem cutsB_in' {a : Int} {l : List Int} (h : cutsB a l = true) : ∀ x ∈ l, 0 ≤ x ∧ x ≤ 1000 := fun x hx => by
  obtain ⟨_, h2, _, h4⟩ := cutsB_in h
  have := h4 x hx; omega
theorem spec_chCuts.ev (a : Int) (l : List Int) (hl : l.length ≤ 9223372036854775806) : Ev (fun k => spec_chCuts.f k a l) (cutsB a l) := by
  unfold spec_chCuts.f
  refine Ev.bindc (x := inB a 1 1000) (by unfold spec_chLinks.f; rw [spec_l1In.valB]; rfl) ?_
  refine Ev.ite (fun c => ?_) (fun c => Ev.val (by unfold cutsB; rw [Bool.not_eq_true] at c; rw [c]; rfl))
  have c' := c
  unfold inB at c'
  simp at c'
  refine Ev.ite (fun d => ?_) (fun d => Ev.val (by unfold cutsB; rw [decide_eq_false (by omega), Bool.false_and, Bool.and_false]))
  rw [w64 (by omega) (by omega)]
  refine Ev.bind (spec_l1Rising.ev l 0 (a - 1) hl) (Ev.val ?_)
  unfold cutsB
  rw [c, decide_eq_true (by omega), Bool.true_and, Bool.true_and]
theorem impl_AreCuts.ev (a : Int) (l : List Int) (hl : l.length ≤ 9223372036854775806) : Ev (fun k => impl_AreCuts.f k a l) (cutsB a l) := by
  unfold impl_AreCuts.f
  refine Ev.bindc (x := inB a 1 1000) (by unfold impl_isChain.f; rw [impl_within.valB]; rfl) ?_
  refine Ev.ite (fun c => ?_) (fun c => Ev.val (by unfold cutsB; rw [Bool.not_eq_true] at c; rw [c]; rfl))
  have c' := c
  unfold inB at c'
  simp at c'
  refine Ev.ite (fun d => ?_) (fun d => Ev.val (by unfold cutsB; rw [decide_eq_false (by omega), Bool.false_and, Bool.and_false]))
  rw [w64 (by omega) (by omega)]
  refine Ev.bindc (impl_areWithin.val l 0 (a - 1)) ?_
  refine Ev.ite (fun e => ?_) (fun e => Ev.val ?_)
  · refine Ev.bind (impl_rises.ev l hl) (Ev.val ?_)
    unfold cutsB inB
    rw [show (decide (1 ≤ a) && decide (a ≤ 1000)) = true from c, decide_eq_true (by omega), e, Bool.true_and, Bool.true_and, Bool.true_and]
  · rw [Bool.not_eq_true] at e
    unfold cutsB inB
    rw [e, Bool.false_and, Bool.and_false, Bool.and_false]
def runPB (a : Int) (l : List Int) : Int := runL (piecesB a l) 0
theorem piecesB_run {a : Int} {l : List Int} (h : cutsB a l = true) : (piecesB a l).length ≤ 1000000000 ∧ (∀ x ∈ piecesB a l, 0 ≤ x) ∧ (piecesB a l).sum ≤ 1000000000 := by
  have hc := cutsB_in h
  have hin := piecesB_in a hc.2.1 l (cutsB_in' h)
  have hlen := piecesB_length a l hc.2.2.1
  have hsum := sum_le (piecesB a l) 1000 (fun x hx => (hin x hx).2)
  exact ⟨by omega, fun x hx => by have := (hin x hx).1; omega, by omega⟩
theorem spec_piRun.pieces {a : Int} {l : List Int} (h : cutsB a l = true) : Ev (fun k => spec_piRun.f k (piecesB a l)) (runPB a l) :=
  spec_piRun.ev _ (piecesB_run h).1 (piecesB_run h).2.1 (piecesB_run h).2.2
theorem impl_run.pieces {a : Int} {l : List Int} (h : cutsB a l = true) : Ev (fun k => impl_run.f k (piecesB a l)) (runPB a l) :=
  impl_run.ev _ (piecesB_run h).1 (piecesB_run h).2.1 (piecesB_run h).2.2
theorem spec_chPay.ev {a : Int} {l : List Int} (c : cutsB a l = true) : Ev (fun k => spec_chPay.f k a l) (runPB a l == a) := by
  have hc := cutsB_in c
  exact Ev.bind (spec_chPieces.ev a (by omega) hc.2.1 l hc.2.2.1 (cutsB_in' c)) (Ev.bind (spec_piRun.pieces c) (Ev.val rfl))
theorem impl_pays.ev {a : Int} {l : List Int} (c : cutsB a l = true) : Ev (fun k => impl_pays.f k a l) (runPB a l == a) := by
  have hc := cutsB_in c
  exact Ev.bind (impl_pieces.ev a (by omega) hc.2.1 l hc.2.2.1 (cutsB_in' c)) (Ev.bind (impl_run.pieces c) (Ev.val rfl))
def doPayB (a : Int) (l : List Int) : Bool × Bool := if cutsB a l = true then (runPB a l == a, true) else (false, false)
theorem impl_DoCutsPay.ev (a : Int) (l : List Int) (hl : l.length ≤ 9223372036854775806) : Ev (fun k => impl_DoCutsPay.f k a l) (doPayB a l) := by
  refine Ev.bind (impl_AreCuts.ev a l hl) (Ev.ite (fun c => ?_) (fun c => Ev.val (by rw [doPayB, if_neg c])))
  exact Ev.bind (impl_pays.ev c) (Ev.val (by rw [doPayB, if_pos c]))
theorem pairwise_of_rises : ∀ l : List Int, risesB l = true → l.Pairwise (fun x y => x < y)
  | [], _ => List.Pairwise.nil
  | x :: s, h => List.pairwise_cons.2 ⟨risesB_head h, pairwise_of_rises s (by
      cases s with
      | nil => rfl
      | cons y s => rw [risesB, Bool.and_eq_true] at h; exact h.2)⟩
theorem rises_of_pairwise' : ∀ l : List Int, l.Pairwise (fun x y => x < y) → risesB l = true
  | [], _ => rfl
  | [_], _ => rfl
  | x :: y :: s, h => by
    rw [List.pairwise_cons] at h
    rw [risesB, rises_of_pairwise' (y :: s) h.2, decide_eq_true (h.1 y (by simp))]; rfl
theorem cutsB_erase {a : Int} {l : List Int} (h : cutsB a l = true) (i : Nat) : cutsB a (l.eraseIdx i) = true := by
  have hs := List.eraseIdx_sublist l i
  unfold cutsB at h ⊢
  simp only [Bool.and_eq_true, decide_eq_true_eq, List.all_eq_true] at h ⊢
  exact ⟨h.1, Nat.le_trans hs.length_le h.2.1, fun x hx => h.2.2.1 x (hs.subset hx), rises_of_pairwise' _ ((pairwise_of_rises l h.2.2.2).sublist hs)⟩
def needR (links : Int) (l : List Int) : Nat → Nat → List Int
  | 0, _ => []
  | d + 1, i => if (runPB links (l.eraseIdx i) == links) = true then (i : Int) :: needR links l d (i + 1) else needR links l d (i + 1)
theorem needR_length (links : Int) (l : List Int) : ∀ d i, (needR links l d i).length ≤ d
  | 0, _ => by simp [needR]
  | d + 1, i => by
    have := needR_length links l d (i + 1)
    rw [needR]; split <;> simp <;> omega
theorem impl_without.val (l : List Int) (i : Nat) (h : i < l.length) (hl : l.length ≤ 1000000) : impl_without.f l (i : Int) = some (l.eraseIdx i) := by
  unfold impl_without.f
  rw [if_pos (by omega), if_pos (by omega), if_pos hl]; rfl
theorem impl_NeedlessCuts.ev_l {links : Int} {l : List Int} (hc : cutsB links l = true) : ∀ (d i : Nat) (acc : List Int), i + d = l.length → acc.length ≤ i → Ev (fun k => impl_NeedlessCuts.l0 k links l acc (l.length : Int) (i : Int)) (acc ++ needR links l d i, true)
  | 0, i, acc, hd, _ => by
    refine Ev.step (f := fun _ => some (acc, true)) (fun k => ?_) (Ev.val (by rw [needR, List.append_nil]))
    rw [impl_NeedlessCuts.l0, if_neg (by omega)]
  | d + 1, i, acc, hd, ha => by
    have hl := (cutsB_in hc).2.2.1
    have hp := impl_pays.ev (cutsB_erase hc i)
    have hw : wrap64 ((i : Int) + 1) = ((i + 1 : Nat) : Int) := by rw [w64 (by omega) (by omega)]; omega
    by_cases c : (runPB links (l.eraseIdx i) == links) = true
    · have h := impl_NeedlessCuts.ev_l hc d (i + 1) (acc ++ [(i : Int)]) (by omega) (by simp; omega)
      refine Ev.step (f := fun k => (impl_pays.f k links (l.eraseIdx i)).bind fun t => if t = true then impl_NeedlessCuts.l0 k links l (acc ++ [(i : Int)]) (l.length : Int) ((i + 1 : Nat) : Int) else impl_NeedlessCuts.l0 k links l acc (l.length : Int) ((i + 1 : Nat) : Int)) (fun k => ?_) (Ev.bind hp (Ev.pos c (Ev.eq h (by rw [needR, if_pos c]; simp))))
      rw [impl_NeedlessCuts.l0, if_pos (by omega), impl_without.val l i (by omega) (by omega), Option.bind_some, hw]
      congr 1; funext t; split
      · rw [if_pos (by omega)]
      · rfl
    · have h := impl_NeedlessCuts.ev_l hc d (i + 1) acc (by omega) (by omega)
      refine Ev.step (f := fun k => (impl_pays.f k links (l.eraseIdx i)).bind fun t => if t = true then impl_NeedlessCuts.l0 k links l (acc ++ [(i : Int)]) (l.length : Int) ((i + 1 : Nat) : Int) else impl_NeedlessCuts.l0 k links l acc (l.length : Int) ((i + 1 : Nat) : Int)) (fun k => ?_) (Ev.bind hp (Ev.neg c (Ev.eq h (by rw [needR, if_neg c]))))
      rw [impl_NeedlessCuts.l0, if_pos (by omega), impl_without.val l i (by omega) (by omega), Option.bind_some, hw]
      congr 1; funext t; split
      · rw [if_pos (by omega)]
      · rfl
theorem spec_NeedlessCuts.ev_l {links : Int} {l : List Int} (hc : cutsB links l = true) : ∀ (d i : Nat) (acc : List Int), i + d = l.length → acc.length ≤ i → Ev (fun k => spec_NeedlessCuts.l0 k links l acc (l.length : Int) (i : Int)) (acc ++ needR links l d i, true)
  | 0, i, acc, hd, _ => by
    refine Ev.step (f := fun _ => some (acc, true)) (fun k => ?_) (Ev.val (by rw [needR, List.append_nil]))
    rw [spec_NeedlessCuts.l0, if_neg (by omega)]
  | d + 1, i, acc, hd, ha => by
    have hl := (cutsB_in hc).2.2.1
    have hp := spec_chPay.ev (cutsB_erase hc i)
    have hw : wrap64 ((i : Int) + 1) = ((i + 1 : Nat) : Int) := by rw [w64 (by omega) (by omega)]; omega
    have he : l.take i ++ l.drop (i + 1) = l.eraseIdx i := (List.eraseIdx_eq_take_drop_succ l i).symm
    have hg : ∀ k, spec_NeedlessCuts.l0 (k + 1) links l acc (l.length : Int) (i : Int) = (spec_chPay.f k links (l.eraseIdx i)).bind fun t => if t = true then spec_NeedlessCuts.l0 k links l (acc ++ [(i : Int)]) (l.length : Int) ((i + 1 : Nat) : Int) else spec_NeedlessCuts.l0 k links l acc (l.length : Int) ((i + 1 : Nat) : Int) := by
      intro k
      rw [spec_NeedlessCuts.l0, if_pos (by omega), if_pos (by omega), if_pos (by omega), hw]
      simp only [Int.toNat_natCast]
      rw [spec_l1Own.val _ (by simp; omega), Option.bind_some, if_pos (by omega), if_pos (by omega), if_pos (by simp; omega), he]
      congr 1; funext t; split
      · rw [if_pos (by omega)]
      · rfl
    by_cases c : (runPB links (l.eraseIdx i) == links) = true
    · have h := spec_NeedlessCuts.ev_l hc d (i + 1) (acc ++ [(i : Int)]) (by omega) (by simp; omega)
      exact Ev.step (f := fun k => (spec_chPay.f k links (l.eraseIdx i)).bind fun t => if t = true then spec_NeedlessCuts.l0 k links l (acc ++ [(i : Int)]) (l.length : Int) ((i + 1 : Nat) : Int) else spec_NeedlessCuts.l0 k links l acc (l.length : Int) ((i + 1 : Nat) : Int)) hg (Ev.bind hp (Ev.pos c (Ev.eq h (by rw [needR, if_pos c]; simp))))
    · have h := spec_NeedlessCuts.ev_l hc d (i + 1) acc (by omega) (by omega)
      exact Ev.step (f := fun k => (spec_chPay.f k links (l.eraseIdx i)).bind fun t => if t = true then spec_NeedlessCuts.l0 k links l (acc ++ [(i : Int)]) (l.length : Int) ((i + 1 : Nat) : Int) else spec_NeedlessCuts.l0 k links l acc (l.length : Int) ((i + 1 : Nat) : Int)) hg (Ev.bind hp (Ev.neg c (Ev.eq h (by rw [needR, if_neg c]))))
def needCutsB (a : Int) (l : List Int) : List Int × Bool := if cutsB a l = true ∧ (runPB a l == a) = true then (needR a l l.length 0, true) else ([], false)
theorem needCutsB_length (a : Int) (l : List Int) : (needCutsB a l).1.length ≤ 9 := by
  unfold needCutsB
  split
  · rename_i h
    exact Nat.le_trans (needR_length _ _ _ _) (cutsB_in h.1).2.2.1
  · simp
theorem impl_NeedlessCuts.ev (a : Int) (l : List Int) (hl : l.length ≤ 9223372036854775806) : Ev (fun k => impl_NeedlessCuts.f k a l) (needCutsB a l) := by
  refine Ev.bind (impl_DoCutsPay.ev a l hl) ?_
  unfold doPayB
  by_cases c : cutsB a l = true
  · rw [if_pos c]
    refine Ev.ite (fun d => ?_) (fun d => Ev.val (by rw [needCutsB, if_neg (fun h => d h.2)]))
    exact Ev.eq (impl_NeedlessCuts.ev_l c l.length 0 [] (by omega) (by simp)) (by rw [needCutsB, if_pos ⟨c, d⟩]; rfl)
  · rw [if_neg c]
    exact Ev.neg (by simp) (Ev.val (by rw [needCutsB, if_neg (fun h => c h.1)]))
theorem spec_NeedlessCuts.ev (a : Int) (l : List Int) (hl : l.length ≤ 9223372036854775806) : Ev (fun k => spec_NeedlessCuts.f k a l) (needCutsB a l) := by
  refine Ev.bind (spec_chCuts.ev a l hl) (Ev.ite (fun c => ?_) (fun c => ?_))
  · refine Ev.bind (spec_chPay.ev c) ?_
    apply Ev.step
    · intro k; rw [spec_NeedlessCuts.j0]
    by_cases d : (runPB a l == a) = true
    · exact Ev.neg (by rw [d]; decide) (Ev.eq (spec_NeedlessCuts.ev_l c l.length 0 [] (by omega) (by simp)) (by rw [needCutsB, if_pos ⟨c, d⟩]; rfl))
    · exact Ev.pos (by rw [Bool.not_eq_true] at d; rw [d]; rfl) (Ev.val (by rw [needCutsB, if_neg (fun h => d h.2)]))
  · apply Ev.step
    · intro k; rw [spec_NeedlessCuts.j0]
    exact Ev.pos rfl (Ev.val (by rw [needCutsB, if_neg (fun h => c h.1)]))
theorem FnExactNeedlessCuts : laws_FnExactNeedlessCuts.Pure := by
  intro a l _ hl _ _
  refine Ev.rounds (g := fun n => laws_FnExactNeedlessCuts.f n a l) ?_
  unfold laws_FnExactNeedlessCuts.f
  refine Ev.ite (fun _ => Ev.val rfl) (fun hc => ?_)
  have hl' : l.length ≤ 1048576 := by omega
  have h1 := laws_toIntS.ev l (by omega)
  have heL := laws_eqIntS.ev l l (by omega)
  have hR := needCutsB_length a l
  have hs := spec_NeedlessCuts.ev a l (by omega)
  have hi := impl_NeedlessCuts.ev a l (by omega)
  generalize needCutsB a l = R at *
  have heR := laws_eqIntS.ev R.1 R.1 (by omega)
  rw [decide_eq_true rfl] at heL heR
  refine Ev.bind h1 (Ev.bind hs (Ev.bind h1 (Ev.bind hi (Ev.bind heR (Ev.pos rfl ?_)))))
  apply Ev.step
  · intro k; rw [laws_FnExactNeedlessCuts.j0]
  refine Ev.neg (by simp) (Ev.bind h1 (Ev.bind heL (Ev.pos rfl (Ev.bind (laws_markIntS.ev l (by omega)) (Ev.neg (by omega) (Ev.bind heR (Ev.pos rfl ?_)))))))
  apply Ev.step
  · intro k; rw [laws_FnExactNeedlessCuts.j1]
  refine Ev.neg (by simp) (Ev.bind (laws_markIntS.ev R.1 (by omega)) (Ev.bind (laws_heldIntS.ev R.1.length (by omega)) (Ev.neg (by omega) (Ev.pos rfl (Ev.bind h1 (Ev.bind hi (Ev.bind heR (Ev.pos rfl ?_))))))))
  apply Ev.step
  · intro k; rw [laws_FnExactNeedlessCuts.j2]
  exact Ev.neg (by simp) (Ev.bind (laws_heldIntS.ev R.1.length (by omega)) (Ev.neg (by omega) (Ev.pos rfl (Ev.val rfl))))
end Go.Proofs.Ytbpmakcgiepkhaa.Pure
