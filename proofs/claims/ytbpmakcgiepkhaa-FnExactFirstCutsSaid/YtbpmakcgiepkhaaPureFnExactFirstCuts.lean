/- For all arguments within the row's reach the law FnExactFirstCuts answers true.
No further conditions. -/
import Derived.Test.YtbpmakcgiepkhaaPFnExactFirstCutsx0
import Derived.Test.YtbpmakcgiepkhaaPFnExactFirstCutsx1
import Derived.Test.YtbpmakcgiepkhaaPFnExactFirstCutsx2
import Derived.Test.YtbpmakcgiepkhaaPFnExactFirstCutsx3
import Derived.Test.YtbpmakcgiepkhaaPFnExactFirstCutsx4
set_option linter.unusedVariables false
set_option linter.unusedSimpArgs false
namespace Go.Proofs.Ytbpmakcgiepkhaa.Pure
open Go.RowKit Go.Proofs.Ytbpmakcgiepkhaa.PFnExactFirstCuts Go.Proofs.YtbpmakcgiepkhaaW.PrintWords Go.Proofs.YtbpmakcgiepkhaaW.PrintLast Go.Proofs.YtbpmakcgiepkhaaW.PrintMore
theorem Ev.pos {α : Type} {c : Prop} [Decidable c] {g f : Nat → Option α} {r : α} (hc : c) (h : Ev g r) : Ev (fun k => if c then g k else f k) r := by
  obtain ⟨K, h⟩ := h
  exact ⟨K, fun k hk => by show (if c then g k else f k) = _; rw [if_pos hc]; exact h k hk⟩
theorem Ev.neg {α : Type} {c : Prop} [Decidable c] {g f : Nat → Option α} {r : α} (hc : ¬ c) (h : Ev f r) : Ev (fun k => if c then g k else f k) r := by
  obtain ⟨K, h⟩ := h
  exact ⟨K, fun k hk => by show (if c then g k else f k) = _; rw [if_neg hc]; exact h k hk⟩
theorem Ev.val {α : Type} {a r : α} (h : a = r) : Ev (fun _ => some a) r := ⟨0, fun _ _ => by rw [h]⟩
theorem Ev.const {α : Type} {a : Option α} {r : α} (h : a = some r) : Ev (fun _ => a) r := ⟨0, fun _ _ => h⟩
theorem Ev.bindc {α β : Type} {a : Option α} {f : Nat → α → Option β} {x : α} {r : β} (h : a = some x) (k : Ev (fun n => f n x) r) : Ev (fun n => a.bind (f n)) r := by
  obtain ⟨K, k⟩ := k
  exact ⟨K, fun n hn => by show a.bind (f n) = _; rw [h]; exact k n hn⟩
theorem Ev.eq {α : Type} {g : Nat → Option α} {r r' : α} (h : Ev g r) (e : r = r') : Ev g r' := e ▸ h
def inB (a b c : Int) : Bool := decide (b ≤ a) && decide (a ≤ c)
theorem Ev.ite {α : Type} {c : Prop} [Decidable c] {g f : Nat → Option α} {r : α} (h : c → Ev g r) (h' : ¬ c → Ev f r) : Ev (fun k => if c then g k else f k) r := by
  by_cases hc : c
  · exact Ev.pos hc (h hc)
  · exact Ev.neg hc (h' hc)
theorem rd_eq (l : List Int) (i : Nat) (h : i < l.length) : rd l (i : Int) = l[i] := by simp [rd, List.getD_eq_getElem?_getD, List.getElem?_eq_getElem h]
theorem rd_app (p : List Int) (x : Int) (s : List Int) : rd (p ++ x :: s) (p.length : Int) = x := by simp [rd, List.getD_eq_getElem?_getD]
theorem w64 {n : Int} (h0 : -9223372036854775808 ≤ n) (h1 : n ≤ 9223372036854775807) : wrap64 n = n := by unfold wrap64; omega
theorem laws_eqIntS.ev_l (s t : List Int) (hl : s.length ≤ 35184372088832) : ∀ (p : List Int), p.length + s.length ≤ 35184372088832 → s.length = t.length → ∀ q : List Int, q.length = p.length → Ev (fun k => laws_eqIntS.l0 k (p ++ s) (q ++ t) (p.length : Int)) (decide (s = t)) := by
  induction s generalizing t with
  | nil =>
    intro p hp ht q hq
    obtain rfl : t = [] := List.eq_nil_of_length_eq_zero (by simpa using ht.symm)
    refine Ev.step (f := fun _ => some true) (fun k => ?_) (Ev.val (by simp))
    rw [laws_eqIntS.l0, if_neg (by simp)]
  | cons x s ih =>
    intro p hp ht q hq
    obtain _ | ⟨y, t⟩ := t
    · simp at ht
    simp only [List.length_cons] at ht hp hl
    have e1 : rd (p ++ x :: s) (p.length : Int) = x := rd_app p x s
    have e2 : rd (q ++ y :: t) (p.length : Int) = y := by rw [← hq]; exact rd_app q y t
    by_cases e : x = y
    · subst e
      have h := ih t (by omega) (p ++ [x]) (by simp <;> omega) (by omega) (q ++ [x]) (by simp [hq])
      refine Ev.step (f := fun k => laws_eqIntS.l0 k ((p ++ [x]) ++ s) ((q ++ [x]) ++ t) ((p ++ [x]).length : Int)) (fun k => ?_) (Ev.eq h (by simp))
      rw [laws_eqIntS.l0, if_pos (by simp <;> omega), if_pos (by omega), if_pos (by simp <;> omega), e1, e2, if_pos rfl, w64 (by omega) (by omega)]
      simp
    · refine Ev.step (f := fun _ => some false) (fun k => ?_) (Ev.val (by simp [e]))
      rw [laws_eqIntS.l0, if_pos (by simp <;> omega), if_pos (by omega), if_pos (by simp <;> omega), e1, e2, if_neg e]
theorem laws_eqIntS.ev (s t : List Int) (hl : s.length ≤ 35184372088832) : Ev (fun k => laws_eqIntS.f k s t) (decide (s = t)) := by
  unfold laws_eqIntS.f
  refine Ev.ite (fun h => ?_) (fun h => Ev.val ?_)
  · exact laws_eqIntS.ev_l s t hl [] (by simpa using hl) (by omega) [] rfl
  · have : s ≠ t := by rintro rfl; exact h rfl
    simp [this]
theorem spec_l1In.val (a b c : Int) : spec_l1In.f a b c = some (decide (b ≤ a) && decide (a ≤ c)) := by
  unfold spec_l1In.f
  by_cases h : a ≥ b
  · rw [if_pos h]; simp [show b ≤ a from h]
  · rw [if_neg h]; simp [show ¬ b ≤ a from h]
theorem spec_l1In.valB (a b c : Int) : spec_l1In.f a b c = some (inB a b c) := spec_l1In.val a b c
theorem impl_within.val (a b c : Int) : impl_within.f a b c = some (decide (b ≤ a) && decide (a ≤ c)) := by
  unfold impl_within.f
  by_cases h : b ≤ a
  · rw [if_pos h]; simp [h]
  · rw [if_neg h]; simp [h]
theorem impl_within.valB (a b c : Int) : impl_within.f a b c = some (inB a b c) := impl_within.val a b c
/-- No element is less than the one before. -/
def sortedB : List Int → Bool
  | [] => true
  | [_] => true
  | x :: y :: s => decide (x ≤ y) && sortedB (y :: s)
theorem sortedB_iff (l : List Int) : sortedB l = true ↔ ∀ i : Nat, ∀ h : i + 1 < l.length, l[i] ≤ l[i + 1] := by
  induction l with
  | nil => simp [sortedB]
  | cons x s ih =>
    cases s with
    | nil => simp [sortedB]
    | cons y s =>
      simp only [sortedB, Bool.and_eq_true, decide_eq_true_eq, ih]
      constructor
      · rintro ⟨h1, h2⟩ i hi
        cases i with
        | zero => exact h1
        | succ i => exact h2 i (by simpa using hi)
      · intro h
        exact ⟨h 0 (by simp), fun i hi => h (i + 1) (by simpa using hi)⟩
theorem ite_and (t x : Bool) : (if t = true then some x else some false) = some (t && x) := by cases t <;> rfl
def clueB (k a b : Int) : Bool :=
  if k = 0 then inB a 0 4 && b == 0
  else if k = 1 then inB a 0 24 && b == 0
  else if k = 3 then inB a 0 24 && b == 0
  else if k = 2 then inB a 0 24 && inB b 0 1
  else if k = 4 then inB a 0 24 && inB b 0 16
  else if k = 5 then inB a 1 6 && inB b 0 4
  else false
/-- Each element is greater than the one before. -/
def risesB : List Int → Bool
  | [] => true
  | [_] => true
  | x :: y :: s => decide (x < y) && risesB (y :: s)
def ruGoodB (l : List Int) : Bool := decide (2 ≤ l.length) && ((l.all fun x => inB x 0 60) && risesB l) && rd l 0 == 0
theorem risesB_head {x : Int} {s : List Int} (h : risesB (x :: s) = true) : ∀ y ∈ s, x < y := by
  induction s generalizing x with
  | nil => simp
  | cons z s ih =>
    simp only [risesB, Bool.and_eq_true, decide_eq_true_eq] at h
    intro y hy
    rcases List.mem_cons.1 hy with rfl | hy
    · exact h.1
    · have := ih h.2 y hy; omega
theorem risesB_last {l : List Int} (h : risesB l = true) (hne : l ≠ []) : ∀ y ∈ l, y ≤ l.getLast hne := by
  induction l with
  | nil => exact absurd rfl hne
  | cons x s ih =>
    intro y hy
    cases s with
    | nil => simp at hy; simp [hy]
    | cons z s =>
      have h2 : risesB (z :: s) = true := by simp only [risesB, Bool.and_eq_true] at h; exact h.2
      rw [List.getLast_cons (by simp)]
      rcases List.mem_cons.1 hy with rfl | hy
      · have h1 := risesB_head h z (by simp)
        have := ih h2 (by simp) z (by simp)
        omega
      · exact ih h2 (by simp) y hy
theorem rd_last (x : Int) (s : List Int) : rd (x :: s) (s.length : Int) = (x :: s).getLast (by simp) := by
  rw [List.getLast_eq_getElem, rd_eq (x :: s) s.length (by simp)]
  simp
def numsFrom : Nat → Int → List Int
  | 0, _ => []
  | n + 1, m => m :: numsFrom n (m + 1)
theorem rd_set (p : List Int) (x y : Int) (s : List Int) : (p ++ x :: s).set (p.length : Int).toNat y = p ++ y :: s := by
  rw [Int.toNat_natCast, List.set_append_right _ _ (Nat.le_refl _)]; simp
theorem laws_markIntS.ev_l (s : List Int) : ∀ (p : List Int) (a : Int), p.length + s.length ≤ 1000000000000000000 → 0 ≤ a → a + s.length ≤ 4000000000000000000 → Ev (fun k => laws_markIntS.l0 k (p ++ s) a (p.length : Int)) (a + s.length, p ++ numsFrom s.length a) := by
  induction s with
  | nil =>
    intro p a hp h0 h1
    refine Ev.step (f := fun _ => some (a, p ++ [])) (fun k => ?_) (Ev.val (by simp [numsFrom]))
    rw [laws_markIntS.l0, if_neg (by simp)]
  | cons x s ih =>
    intro p a hp h0 h1
    simp only [List.length_cons] at hp h1
    have h := ih (p ++ [a]) (a + 1) (by simp; omega) (by omega) (by omega)
    refine Ev.step (f := fun k => laws_markIntS.l0 k ((p ++ [a]) ++ s) (a + 1) ((p ++ [a]).length : Int)) (fun k => ?_) (Ev.eq h ?_)
    · rw [laws_markIntS.l0, if_pos (by simp <;> omega), if_pos (by omega), rd_set, w64 (n := a + 1) (by omega) (by omega), w64 (by omega) (by omega)]
      simp
    · simp [numsFrom]; omega
theorem laws_markIntS.ev (l : List Int) (hl : l.length ≤ 1000000000000000000) : Ev (fun k => laws_markIntS.f k l 1) ((1 + l.length : Int), numsFrom l.length 1) := by
  unfold laws_markIntS.f
  exact laws_markIntS.ev_l l [] 1 (by simpa using hl) (by omega) (by omega)
theorem laws_heldIntS.ev_l : ∀ (n : Nat) (p : List Int) (a : Int), p.length + n ≤ 1000000000000000000 → 0 ≤ a → a + n ≤ 4000000000000000000 → Ev (fun k => laws_heldIntS.l0 k (p ++ numsFrom n a) a (p.length : Int)) (a + n) := by
  intro n
  induction n with
  | zero =>
    intro p a hp h0 h1
    refine Ev.step (f := fun _ => some a) (fun k => ?_) (Ev.val (by simp))
    rw [laws_heldIntS.l0, if_neg (by simp [numsFrom])]
  | succ n ih =>
    intro p a hp h0 h1
    have h := ih (p ++ [a]) (a + 1) (by simp; omega) (by omega) (by omega)
    refine Ev.step (f := fun k => laws_heldIntS.l0 k ((p ++ [a]) ++ numsFrom n (a + 1)) (a + 1) ((p ++ [a]).length : Int)) (fun k => ?_) (Ev.eq h (by omega))
    simp only [numsFrom]
    rw [laws_heldIntS.l0, if_pos (by simp <;> omega), if_pos (by omega), rd_app, if_pos rfl, w64 (n := a + 1) (by omega) (by omega), w64 (by omega) (by omega)]
    simp
theorem laws_heldIntS.ev (n : Nat) (hn : n ≤ 1000000000000000000) : Ev (fun k => laws_heldIntS.f k (numsFrom n 1) 1) (1 + n : Int) := by
  unfold laws_heldIntS.f
  exact laws_heldIntS.ev_l n [] 1 (by simpa using hn) (by omega) (by omega)
/-- A table of N values. -/
def tab (N : Nat) (f : Int → Int) : List Int := (List.range N).map fun (i : Nat) => f (i : Int)
theorem tab_length (N : Nat) (f : Int → Int) : (tab N f).length = N := by simp [tab]
theorem rd_tab (N : Nat) (f : Int → Int) (i : Int) (h0 : 0 ≤ i) (h1 : i < N) : rd (tab N f) i = f i := by
  obtain ⟨n, rfl⟩ := Int.eq_ofNat_of_zero_le h0
  rw [rd_eq _ _ (by rw [tab_length]; omega)]
  simp [tab]
theorem tab_congr (N : Nat) (f g : Int → Int) (h : ∀ i : Int, 0 ≤ i → i < N → f i = g i) : tab N f = tab N g := by
  unfold tab
  apply List.map_congr_left
  intro i hi
  exact h i (by omega) (by have := List.mem_range.1 hi; omega)
theorem tab_set (N : Nat) (f : Int → Int) (i : Int) (v : Int) (h0 : 0 ≤ i) : (tab N f).set i.toNat v = tab N (fun j => if j = i then v else f j) := by
  obtain ⟨n, rfl⟩ := Int.eq_ofNat_of_zero_le h0
  apply List.ext_getElem?
  intro j
  unfold tab
  by_cases hj : j < N
  · by_cases e : n = j
    · subst e
      simp [hj]
    · rw [List.getElem?_set_ne (by simpa using e)]
      simp [hj]
      omega
  · rw [List.getElem?_eq_none (by simp; omega), List.getElem?_eq_none (by simp; omega)]
/-- How many ways there are to make s of some of the pieces. -/
def cnt : List Int → Int → Int
  | [], s => if s = 0 then 1 else 0
  | x :: t, s => cnt t s + cnt t (s - x)
theorem cnt_snoc (l : List Int) (n s : Int) : cnt (l ++ [n]) s = cnt l s + cnt l (s - n) := by
  induction l generalizing s with
  | nil => simp [cnt]
  | cons x t ih =>
    simp only [List.cons_append, cnt, ih]
    rw [show s - x - n = s - n - x by omega]; omega
theorem cnt_nonneg (l : List Int) (s : Int) : 0 ≤ cnt l s := by
  induction l generalizing s with
  | nil => unfold cnt; split <;> omega
  | cons x t ih => have h1 := ih s; have h2 := ih (s - x); unfold cnt; omega
theorem cnt_le (l : List Int) (s : Int) : cnt l s ≤ 2 ^ l.length := by
  induction l generalizing s with
  | nil => unfold cnt; split <;> simp
  | cons x t ih =>
    have h1 := ih s; have h2 := ih (s - x)
    unfold cnt
    rw [List.length_cons, Int.pow_succ]; omega
theorem cnt_neg (l : List Int) (hl : ∀ x ∈ l, 0 ≤ x) (s : Int) (h : s < 0) : cnt l s = 0 := by
  induction l generalizing s with
  | nil => unfold cnt; rw [if_neg (by omega)]
  | cons x t ih =>
    have hx := hl x (by simp)
    unfold cnt
    rw [ih (fun y hy => hl y (by simp [hy])) s h, ih (fun y hy => hl y (by simp [hy])) (s - x) (by omega)]; rfl
theorem sum_nonneg (l : List Int) (hl : ∀ x ∈ l, 0 ≤ x) : 0 ≤ l.sum := by
  induction l with
  | nil => simp
  | cons x t ih =>
    have hx := hl x (by simp)
    have := ih (fun y hy => hl y (by simp [hy]))
    rw [List.sum_cons]; omega
theorem cnt_above (l : List Int) (hl : ∀ x ∈ l, 0 ≤ x) (s : Int) (h : l.sum < s) : cnt l s = 0 := by
  induction l generalizing s with
  | nil => unfold cnt; rw [if_neg (by simp at h; omega)]
  | cons x t ih =>
    have hx := hl x (by simp)
    rw [List.sum_cons] at h
    unfold cnt
    rw [ih (fun y hy => hl y (by simp [hy])) s (by omega), ih (fun y hy => hl y (by simp [hy])) (s - x) (by omega)]; rfl
theorem pow_le_20 {n : Nat} (h : n ≤ 20) : (2 : Int) ^ n ≤ 1048576 := by
  have : (2 : Nat) ^ n ≤ 2 ^ 20 := Nat.pow_le_pow_right (by omega) h
  have e : ((2 : Int) ^ n) = ((2 ^ n : Nat) : Int) := by simp
  rw [e]; omega
theorem sum_le (l : List Int) (B : Int) (hl : ∀ x ∈ l, x ≤ B) : l.sum ≤ l.length * B := by
  induction l with
  | nil => simp
  | cons x t ih =>
    have hx := hl x (by simp)
    have := ih (fun y hy => hl y (by simp [hy]))
    rw [List.sum_cons, List.length_cons]
    have e : ((t.length + 1 : Nat) : Int) * B = t.length * B + B := by
      rw [show ((t.length + 1 : Nat) : Int) = (t.length : Int) + 1 by omega, Int.add_mul]; omega
    omega
/-- Up to where all sums can be made of pieces in order. -/
def runL : List Int → Int → Int
  | [], a => a
  | x :: t, a => if x > a + 1 then a else runL t (a + x)
theorem impl_run.ev_l (s : List Int) : ∀ (p : List Int) (a : Int), p.length + s.length ≤ 1000000000 → 0 ≤ a → (∀ x ∈ s, 0 ≤ x) → a + s.sum ≤ 1000000000 → Ev (fun k => impl_run.l0 k a (p ++ s) ((p ++ s).length : Int) (p.length : Int)) (runL s a) := by
  induction s with
  | nil =>
    intro p a hp h0 hs hsum
    refine Ev.step (f := fun _ => some a) (fun k => ?_) (Ev.val (by simp [runL]))
    rw [impl_run.l0, if_neg (by simp)]
  | cons x s ih =>
    intro p a hp h0 hs hsum
    simp only [List.length_cons] at hp
    rw [List.sum_cons] at hsum
    have hx := hs x (by simp)
    have hs' : ∀ y ∈ s, 0 ≤ y := fun y hy => hs y (by simp [hy])
    have hsn := sum_nonneg s hs'
    have h := ih (p ++ [x]) (a + x) (by simp <;> omega) (by omega) hs' (by omega)
    by_cases c : x > a + 1
    · refine Ev.step (f := fun _ => some a) (fun k => ?_) (Ev.val (by rw [runL, if_pos c]))
      rw [impl_run.l0, if_pos (by simp <;> omega), if_pos (by omega), if_pos (by simp <;> omega), rd_app, w64 (n := a + 1) (by omega) (by omega), if_pos c]
    · refine Ev.step (f := fun k => impl_run.l0 k (a + x) ((p ++ [x]) ++ s) (((p ++ [x]) ++ s).length : Int) ((p ++ [x]).length : Int)) (fun k => ?_) (Ev.eq h (by rw [runL, if_neg c]))
      rw [impl_run.l0, if_pos (by simp <;> omega), if_pos (by omega), if_pos (by simp <;> omega), rd_app, w64 (n := a + 1) (by omega) (by omega), if_neg c, w64 (n := a + x) (by omega) (by omega), w64 (by omega) (by omega)]
      simp
theorem impl_run.ev (l : List Int) (hl : l.length ≤ 1000000000) (h0 : ∀ x ∈ l, 0 ≤ x) (hs : l.sum ≤ 1000000000) : Ev (fun k => impl_run.f k l) (runL l 0) := by
  exact impl_run.ev_l l [] 0 (by simpa using hl) (by omega) h0 (by omega)
theorem spec_piRun.ev_l (s : List Int) : ∀ (p : List Int) (a : Int), p.length + s.length ≤ 1000000000 → 0 ≤ a → (∀ x ∈ s, 0 ≤ x) → a + s.sum ≤ 1000000000 → Ev (fun k => spec_piRun.l0 k a (p ++ s) ((p ++ s).length : Int) (p.length : Int)) (runL s a) := by
  induction s with
  | nil =>
    intro p a hp h0 hs hsum
    refine Ev.step (f := fun _ => some a) (fun k => ?_) (Ev.val (by simp [runL]))
    rw [spec_piRun.l0, if_neg (by simp)]
  | cons x s ih =>
    intro p a hp h0 hs hsum
    simp only [List.length_cons] at hp
    rw [List.sum_cons] at hsum
    have hx := hs x (by simp)
    have hs' : ∀ y ∈ s, 0 ≤ y := fun y hy => hs y (by simp [hy])
    have hsn := sum_nonneg s hs'
    have h := ih (p ++ [x]) (a + x) (by simp <;> omega) (by omega) hs' (by omega)
    by_cases c : x > a + 1
    · refine Ev.step (f := fun _ => some a) (fun k => ?_) (Ev.val (by rw [runL, if_pos c]))
      rw [spec_piRun.l0, if_pos (by simp <;> omega), if_pos (by omega), if_pos (by simp <;> omega), rd_app, w64 (n := a + 1) (by omega) (by omega), if_pos c]
    · refine Ev.step (f := fun k => spec_piRun.l0 k (a + x) ((p ++ [x]) ++ s) (((p ++ [x]) ++ s).length : Int) ((p ++ [x]).length : Int)) (fun k => ?_) (Ev.eq h (by rw [runL, if_neg c]))
      rw [spec_piRun.l0, if_pos (by simp <;> omega), if_pos (by omega), if_pos (by simp <;> omega), rd_app, w64 (n := a + 1) (by omega) (by omega), if_neg c, w64 (n := a + x) (by omega) (by omega), w64 (by omega) (by omega)]
      simp
theorem spec_piRun.ev (l : List Int) (hl : l.length ≤ 1000000000) (h0 : ∀ x ∈ l, 0 ≤ x) (hs : l.sum ≤ 1000000000) : Ev (fun k => spec_piRun.f k l) (runL l 0) := by
  exact spec_piRun.ev_l l [] 0 (by simpa using hl) (by omega) h0 (by omega)
/-- What a clue of a kind tells of pieces. -/
def pzV (kind a : Int) (l : List Int) : Int :=
  if kind = 0 then (l.length : Int) else if kind = 1 then l.sum else if kind = 2 then (if cnt l a < 1 then cnt l a else 1) else if kind = 3 then runL l 0 else if kind = 4 then cnt l a else (l.count a : Int)
/-- The integers in order. -/
def sortL (l : List Int) : List Int := l.mergeSort fun x y => decide (x ≤ y)
theorem perm_sorted_eq : ∀ (a b : List Int), a.Perm b → a.Pairwise (fun x y => x ≤ y) → b.Pairwise (fun x y => x ≤ y) → a = b
  | [], b, h, _, _ => (List.nil_perm.1 h).symm
  | x :: a, [], h, _, _ => absurd h.length_eq (by simp)
  | x :: a, y :: b, h, ha, hb => by
    rw [List.pairwise_cons] at ha hb
    have hy : y ∈ x :: a := h.symm.subset (by simp)
    have hx : x ∈ y :: b := h.subset (by simp)
    have e : x = y := by
      rcases List.mem_cons.1 hy with e1 | e1
      · exact e1.symm
      · rcases List.mem_cons.1 hx with e2 | e2
        · exact e2
        · have := ha.1 y e1; have := hb.1 x e2; omega
    subst e
    rw [perm_sorted_eq a b (List.Perm.cons_inv h) ha.2 hb.2]
theorem sortL_perm (l : List Int) : (sortL l).Perm l := List.mergeSort_perm l _
theorem sortL_sorted (l : List Int) : (sortL l).Pairwise (fun x y => x ≤ y) := by
  have h := List.pairwise_mergeSort (le := fun x y : Int => decide (x ≤ y)) (fun a b c h1 h2 => by simp at *; omega) (fun a b => by simp; omega) l
  exact h.imp (fun h => of_decide_eq_true h)
theorem sortL_length (l : List Int) : (sortL l).length = l.length := (sortL_perm l).length_eq
/-- The pieces along a chain. -/
def partsL (links : Int) : List Int → Int → List Int
  | [], n => if n < links then [links - n] else []
  | c :: s, n => if n < c then (c - n) :: 1 :: partsL links s (c + 1) else 1 :: partsL links s (c + 1)
theorem partsL_length (links : Int) : ∀ (s : List Int) (n : Int), (partsL links s n).length ≤ 2 * s.length + 1
  | [], n => by rw [partsL]; split <;> simp
  | c :: s, n => by
    have := partsL_length links s (c + 1)
    rw [partsL]
    split <;> simp <;> omega
theorem partsL_pos (links : Int) (hl : 1 ≤ links) (s : List Int) : 0 < (partsL links s 0).length := by
  cases s with
  | nil => rw [partsL, if_pos (by omega)]; simp
  | cons c s => rw [partsL]; split <;> simp
theorem partsL_ge (links : Int) : ∀ (s : List Int) (n : Int), (∀ x ∈ partsL links s n, 1 ≤ x)
  | [], n, x, hx => by
    rw [partsL] at hx
    split at hx
    · simp at hx; omega
    · simp at hx
  | c :: s, n, x, hx => by
    have := partsL_ge links s (c + 1)
    rw [partsL] at hx
    split at hx
    · simp at hx
      rcases hx with h | h | h
      · omega
      · omega
      · exact this x h
    · simp at hx
      rcases hx with h | h
      · omega
      · exact this x h
theorem partsL_le (links : Int) (hl : links ≤ 1000) : ∀ (s : List Int) (n : Int), 0 ≤ n → (∀ x ∈ s, 0 ≤ x ∧ x ≤ 1000) → (∀ x ∈ partsL links s n, x ≤ 1000)
  | [], n, hn, hs, x, hx => by
    rw [partsL] at hx
    split at hx
    · simp at hx; omega
    · simp at hx
  | c :: s, n, hn, hs, x, hx => by
    have hc := hs c (by simp)
    have := partsL_le links hl s (c + 1) (by omega) (fun y hy => hs y (by simp [hy]))
    rw [partsL] at hx
    split at hx
    · simp at hx
      rcases hx with h | h | h
      · omega
      · omega
      · exact this x h
    · simp at hx
      rcases hx with h | h
      · omega
      · exact this x h
theorem impl_parts.ev_l (links : Int) (h1 : 0 ≤ links) (h2 : links ≤ 1000) (s : List Int) : ∀ (p acc : List Int) (n : Int), p.length + s.length ≤ 1000000 → acc.length + 2 * s.length + 1 ≤ 1000000 → 0 ≤ n → n ≤ 1001 → (∀ x ∈ s, 0 ≤ x ∧ x ≤ 1000) → Ev (fun k => impl_parts.l0 k links acc n (p ++ s) ((p ++ s).length : Int) (p.length : Int)) (acc ++ partsL links s n) := by
  induction s with
  | nil =>
    intro p acc n hp ha h0 hn hs
    by_cases c : n < links
    · refine Ev.step (f := fun _ => some (acc ++ [links - n])) (fun k => ?_) (Ev.val (by rw [partsL, if_pos c]))
      rw [impl_parts.l0, if_neg (by simp), if_pos c, if_pos (by simp at ha; omega), w64 (by omega) (by omega)]
    · refine Ev.step (f := fun _ => some acc) (fun k => ?_) (Ev.val (by rw [partsL, if_neg c, List.append_nil]))
      rw [impl_parts.l0, if_neg (by simp), if_neg c]
  | cons x s ih =>
    intro p acc n hp ha h0 hn hs
    simp only [List.length_cons] at hp ha
    have hx := hs x (by simp)
    have hs' : ∀ y ∈ s, 0 ≤ y ∧ y ≤ 1000 := fun y hy => hs y (by simp [hy])
    by_cases c : n < x
    · have h := ih (p ++ [x]) (acc ++ [x - n] ++ [1]) (x + 1) (by simp <;> omega) (by simp <;> omega) (by omega) (by omega) hs'
      refine Ev.step (f := fun k => impl_parts.l0 k links (acc ++ [x - n] ++ [1]) (x + 1) ((p ++ [x]) ++ s) (((p ++ [x]) ++ s).length : Int) ((p ++ [x]).length : Int)) (fun k => ?_) (Ev.eq h (by rw [partsL, if_pos c]; simp))
      rw [impl_parts.l0, if_pos (by simp <;> omega), if_pos (by omega), if_pos (by simp <;> omega), rd_app, if_pos c, if_pos (by omega), Option.bind_some, w64 (n := x - n) (by omega) (by omega), if_pos (by simp <;> omega), w64 (n := x + 1) (by omega) (by omega), w64 (by omega) (by omega)]
      simp
    · have h := ih (p ++ [x]) (acc ++ [1]) (x + 1) (by simp <;> omega) (by simp <;> omega) (by omega) (by omega) hs'
      refine Ev.step (f := fun k => impl_parts.l0 k links (acc ++ [1]) (x + 1) ((p ++ [x]) ++ s) (((p ++ [x]) ++ s).length : Int) ((p ++ [x]).length : Int)) (fun k => ?_) (Ev.eq h (by rw [partsL, if_neg c]; simp))
      rw [impl_parts.l0, if_pos (by simp <;> omega), if_pos (by omega), if_pos (by simp <;> omega), rd_app, if_neg c, if_pos (by omega), w64 (n := x + 1) (by omega) (by omega), w64 (by omega) (by omega)]
      simp
theorem impl_parts.ev (links : Int) (h1 : 0 ≤ links) (h2 : links ≤ 1000) (l : List Int) (hl : l.length ≤ 9) (hs : ∀ x ∈ l, 0 ≤ x ∧ x ≤ 1000) : Ev (fun k => impl_parts.f k links l) (partsL links l 0) :=
  impl_parts.ev_l links h1 h2 l [] [] 0 (by simp <;> omega) (by simp <;> omega) (by omega) (by omega) hs
theorem spec_chParts.ev_l (links : Int) (h1 : 0 ≤ links) (h2 : links ≤ 1000) (s : List Int) : ∀ (p acc : List Int) (n : Int), p.length + s.length ≤ 1000000 → acc.length + 2 * s.length + 1 ≤ 1000000 → 0 ≤ n → n ≤ 1001 → (∀ x ∈ s, 0 ≤ x ∧ x ≤ 1000) → Ev (fun k => spec_chParts.l0 k links acc n (p ++ s) ((p ++ s).length : Int) (p.length : Int)) (acc ++ partsL links s n) := by
  induction s with
  | nil =>
    intro p acc n hp ha h0 hn hs
    by_cases c : n < links
    · refine Ev.step (f := fun _ => some (acc ++ [links - n])) (fun k => ?_) (Ev.val (by rw [partsL, if_pos c]))
      rw [spec_chParts.l0, if_neg (by simp), if_pos c, if_pos (by simp at ha; omega), w64 (by omega) (by omega)]
    · refine Ev.step (f := fun _ => some acc) (fun k => ?_) (Ev.val (by rw [partsL, if_neg c, List.append_nil]))
      rw [spec_chParts.l0, if_neg (by simp), if_neg c]
  | cons x s ih =>
    intro p acc n hp ha h0 hn hs
    simp only [List.length_cons] at hp ha
    have hx := hs x (by simp)
    have hs' : ∀ y ∈ s, 0 ≤ y ∧ y ≤ 1000 := fun y hy => hs y (by simp [hy])
    by_cases c : n < x
    · have h := ih (p ++ [x]) (acc ++ [x - n] ++ [1]) (x + 1) (by simp <;> omega) (by simp <;> omega) (by omega) (by omega) hs'
      refine Ev.step (f := fun k => spec_chParts.l0 k links (acc ++ [x - n] ++ [1]) (x + 1) ((p ++ [x]) ++ s) (((p ++ [x]) ++ s).length : Int) ((p ++ [x]).length : Int)) (fun k => ?_) (Ev.eq h (by rw [partsL, if_pos c]; simp))
      rw [spec_chParts.l0, if_pos (by simp <;> omega), if_pos (by omega), if_pos (by simp <;> omega), rd_app, if_pos c, if_pos (by omega), Option.bind_some, w64 (n := x - n) (by omega) (by omega), if_pos (by simp <;> omega), w64 (n := x + 1) (by omega) (by omega), w64 (by omega) (by omega)]
      simp
    · have h := ih (p ++ [x]) (acc ++ [1]) (x + 1) (by simp <;> omega) (by simp <;> omega) (by omega) (by omega) hs'
      refine Ev.step (f := fun k => spec_chParts.l0 k links (acc ++ [1]) (x + 1) ((p ++ [x]) ++ s) (((p ++ [x]) ++ s).length : Int) ((p ++ [x]).length : Int)) (fun k => ?_) (Ev.eq h (by rw [partsL, if_neg c]; simp))
      rw [spec_chParts.l0, if_pos (by simp <;> omega), if_pos (by omega), if_pos (by simp <;> omega), rd_app, if_neg c, if_pos (by omega), w64 (n := x + 1) (by omega) (by omega), w64 (by omega) (by omega)]
      simp
theorem spec_chParts.ev (links : Int) (h1 : 0 ≤ links) (h2 : links ≤ 1000) (l : List Int) (hl : l.length ≤ 9) (hs : ∀ x ∈ l, 0 ≤ x ∧ x ≤ 1000) : Ev (fun k => spec_chParts.f k links l) (partsL links l 0) :=
  spec_chParts.ev_l links h1 h2 l [] [] 0 (by simp <;> omega) (by simp <;> omega) (by omega) (by omega) hs
theorem spec_l1Own.val (l : List Int) (hl : l.length ≤ 1000000) : spec_l1Own.f l = some l := by
  unfold spec_l1Own.f
  rw [Option.bind_some, if_pos (by simp <;> omega)]; rfl
theorem spec_piPut.ev_l (l : List Int) (n : Int) (hl : l.length ≤ 100000) : ∀ (k : Nat), k ≤ l.length → (∀ x ∈ l.drop k, n < x) → ∃ r, Ev (fun m => spec_piPut.l0 m l n (k : Int)) r ∧ r.Perm (n :: l) ∧ (l.Pairwise (fun x y => x ≤ y) → r.Pairwise (fun x y => x ≤ y))
  | 0, _, hd => by
    refine ⟨n :: l, ?_, List.Perm.refl _, fun h => List.pairwise_cons.2 ⟨fun y hy => by have := hd y (by simpa using hy); omega, h⟩⟩
    refine Ev.step (f := fun _ => some (n :: l)) (fun k => ?_) (Ev.val rfl)
    rw [spec_piPut.l0, if_neg (by omega), if_pos (by omega), if_pos (by omega)]
    simp only [Int.toNat_natCast, List.take_zero, List.drop_zero]
    rw [spec_l1Own.val [] (by simp), Option.bind_some, Option.bind_some, if_pos (by simp), Option.bind_some, if_pos (by simp <;> omega)]
    rfl
  | k + 1, hk, hd => by
    have hw : wrap64 (((k + 1 : Nat) : Int) - 1) = (k : Int) := by rw [w64 (by omega) (by omega)]; omega
    have hr : rd l (k : Int) = l[k] := rd_eq l k (by omega)
    by_cases c : l[k] > n
    · obtain ⟨r, h1, h2, h3⟩ := spec_piPut.ev_l l n hl k (by omega) (fun x hx => by
        rw [List.drop_eq_getElem_cons (by omega)] at hx
        rcases List.mem_cons.1 hx with e | e
        · rw [e]; exact c
        · exact hd x e)
      refine ⟨r, Ev.step (f := fun m => spec_piPut.l0 m l n (k : Int)) (fun m => ?_) h1, h2, h3⟩
      rw [spec_piPut.l0, if_pos (by omega), hw, if_pos (by omega), if_pos (by omega), hr, if_pos c]
    · refine ⟨l.take (k + 1) ++ n :: l.drop (k + 1), ?_, ?_, ?_⟩
      · refine Ev.step (f := fun _ => some (l.take (k + 1) ++ n :: l.drop (k + 1))) (fun m => ?_) (Ev.val rfl)
        rw [spec_piPut.l0, if_pos (by omega), hw, if_pos (by omega), if_pos (by omega), hr, if_neg c, if_pos (by omega), if_pos (by omega)]
        simp only [Int.toNat_natCast]
        rw [spec_l1Own.val _ (by simp <;> omega), Option.bind_some, Option.bind_some, if_pos (by simp <;> omega), Option.bind_some, if_pos (by simp <;> omega)]
        simp
      · refine List.perm_middle.trans ?_
        rw [List.take_append_drop]
      · intro h
        have h0 := h
        rw [← List.take_append_drop (k + 1) l, List.pairwise_append] at h0
        obtain ⟨ha, hb, _⟩ := h0
        rw [List.pairwise_append, List.pairwise_cons]
        have hA : ∀ x ∈ l.take (k + 1), x ≤ n := by
          intro x hx
          rw [List.take_succ_eq_append_getElem (by omega)] at hx ha
          rcases List.mem_append.1 hx with e | e
          · have := (List.pairwise_append.1 ha).2.2 x e l[k] (by simp); omega
          · rw [List.mem_singleton.1 e]; omega
        refine ⟨ha, ⟨fun y hy => by have := hd y hy; omega, hb⟩, fun x hx y hy => ?_⟩
        have h5 := hA x hx
        rcases List.mem_cons.1 hy with e | e
        · rw [e]; exact h5
        · have := hd y e; omega
theorem spec_piPut.ev (l : List Int) (n : Int) (hl : l.length ≤ 100000) : ∃ r, Ev (fun m => spec_piPut.f m l n) r ∧ r.Perm (n :: l) ∧ (l.Pairwise (fun x y => x ≤ y) → r.Pairwise (fun x y => x ≤ y)) :=
  spec_piPut.ev_l l n hl l.length (Nat.le_refl _) (fun x hx => by simp at hx)
theorem spec_chSorted.ev_l (s : List Int) : ∀ (p acc : List Int), p.length + s.length ≤ 1000000 → acc.length + s.length ≤ 100000 → acc.Pairwise (fun x y => x ≤ y) → ∃ r, Ev (fun k => spec_chSorted.l0 k acc (p ++ s) ((p ++ s).length : Int) (p.length : Int)) r ∧ r.Perm (acc ++ s) ∧ r.Pairwise (fun x y => x ≤ y) := by
  induction s with
  | nil =>
    intro p acc hp ha hs
    refine ⟨acc, Ev.step (f := fun _ => some acc) (fun k => ?_) (Ev.val rfl), by simp, hs⟩
    rw [spec_chSorted.l0, if_neg (by simp)]
  | cons x s ih =>
    intro p acc hp ha hs
    simp only [List.length_cons] at hp ha
    obtain ⟨q, q1, q2, q3⟩ := spec_piPut.ev acc x (by omega)
    have ql := q2.length_eq
    simp only [List.length_cons] at ql
    obtain ⟨r, h1, h2, h3⟩ := ih (p ++ [x]) q (by simp <;> omega) (by omega) (q3 hs)
    refine ⟨r, ?_, h2.trans ((q2.append_right s).trans (by simp [List.perm_middle.symm])), h3⟩
    refine Ev.step (f := fun k => (spec_piPut.f k acc x).bind fun t => spec_chSorted.l0 k t ((p ++ [x]) ++ s) (((p ++ [x]) ++ s).length : Int) ((p ++ [x]).length : Int)) (fun k => ?_) (Ev.bind q1 h1)
    rw [spec_chSorted.l0, if_pos (by simp <;> omega), if_pos (by omega), if_pos (by simp <;> omega), rd_app, w64 (by omega) (by omega)]
    simp
theorem spec_chSorted.ev (l : List Int) (hl : l.length ≤ 100000) : Ev (fun k => spec_chSorted.f k l) (sortL l) := by
  obtain ⟨r, h1, h2, h3⟩ := spec_chSorted.ev_l l [] [] (by simp <;> omega) (by simp <;> omega) List.Pairwise.nil
  exact Ev.eq h1 (perm_sorted_eq _ _ (h2.trans ((sortL_perm l).symm.trans (by simp))) h3 (sortL_sorted l))
def piecesB (links : Int) (l : List Int) : List Int := sortL (partsL links l 0)
theorem piecesB_length (links : Int) (l : List Int) (hl : l.length ≤ 9) : (piecesB links l).length ≤ 19 := by
  have := partsL_length links l 0
  rw [piecesB, sortL_length]; omega
theorem piecesB_in (links : Int) (h2 : links ≤ 1000) (l : List Int) (hs : ∀ x ∈ l, 0 ≤ x ∧ x ≤ 1000) : ∀ x ∈ piecesB links l, 1 ≤ x ∧ x ≤ 1000 := fun x hx =>
  have hx' := (sortL_perm _).subset hx
  ⟨partsL_ge links l 0 x hx', partsL_le links h2 l 0 (by omega) hs x hx'⟩
theorem spec_chPieces.ev (links : Int) (h1 : 0 ≤ links) (h2 : links ≤ 1000) (l : List Int) (hl : l.length ≤ 9) (hs : ∀ x ∈ l, 0 ≤ x ∧ x ≤ 1000) : Ev (fun k => spec_chPieces.f k links l) (piecesB links l) := by
  have := partsL_length links l 0
  exact Ev.bind (spec_chParts.ev links h1 h2 l hl hs) (Ev.bind (spec_chSorted.ev _ (by omega)) (Ev.val rfl))
theorem impl_pieces.ev (links : Int) (h1 : 1 ≤ links) (h2 : links ≤ 1000) (l : List Int) (hl : l.length ≤ 9) (hs : ∀ x ∈ l, 0 ≤ x ∧ x ≤ 1000) : Ev (fun k => impl_pieces.f k links l) (piecesB links l) := by
  have := partsL_length links l 0
  exact Ev.bind (impl_parts.ev links (by omega) h2 l hl hs) (Ev.pos (partsL_pos links h1 l) (Ev.pos (by omega) (Ev.val rfl)))
def cutsB (a : Int) (l : List Int) : Bool := inB a 1 1000 && (decide (l.length ≤ 9) && ((l.all fun x => inB x 0 (a - 1)) && risesB l))
theorem cutsB_in {a : Int} {l : List Int} (h : cutsB a l = true) : 1 ≤ a ∧ a ≤ 1000 ∧ l.length ≤ 9 ∧ ∀ x ∈ l, 0 ≤ x ∧ x ≤ a - 1 := by
  unfold cutsB inB at h
  simp at h
  exact ⟨h.1.1, h.1.2, h.2.1, h.2.2.1⟩
theorem cutsB_in' {a : Int} {l : List Int} (h : cutsB a l = true) : ∀ x ∈ l, 0 ≤ x ∧ x ≤ 1000 := fun x hx => by
  obtain ⟨_, h2, _, h4⟩ := cutsB_in h
  have := h4 x hx; omega
def runPB (a : Int) (l : List Int) : Int := runL (piecesB a l) 0
theorem piecesB_run {a : Int} {l : List Int} (h : cutsB a l = true) : (piecesB a l).length ≤ 1000000000 ∧ (∀ x ∈ piecesB a l, 0 ≤ x) ∧ (piecesB a l).sum ≤ 1000000000 := by
  have hc := cutsB_in h
  have hin := piecesB_in a hc.2.1 l (cutsB_in' h)
  have hlen := piecesB_length a l hc.2.2.1
  have hsum := sum_le (piecesB a l) 1000 (fun x hx => (hin x hx).2)
  exact ⟨by omega, fun x hx => by have := (hin x hx).1; omega, by omega⟩
theorem spec_piRun.pieces {a : Int} {l : List Int} (h : cutsB a l = true) : Ev (fun k => spec_piRun.f k (piecesB a l)) (runPB a l) :=
  spec_piRun.ev _ (piecesB_run h).1 (piecesB_run h).2.1 (piecesB_run h).2.2
theorem impl_run.pieces {a : Int} {l : List Int} (h : cutsB a l = true) : Ev (fun k => impl_run.f k (piecesB a l)) (runPB a l) :=
  impl_run.ev _ (piecesB_run h).1 (piecesB_run h).2.1 (piecesB_run h).2.2
theorem spec_chPay.ev {a : Int} {l : List Int} (c : cutsB a l = true) : Ev (fun k => spec_chPay.f k a l) (runPB a l == a) := by
  have hc := cutsB_in c
  exact Ev.bind (spec_chPieces.ev a (by omega) hc.2.1 l hc.2.2.1 (cutsB_in' c)) (Ev.bind (spec_piRun.pieces c) (Ev.val rfl))
theorem impl_pays.ev {a : Int} {l : List Int} (c : cutsB a l = true) : Ev (fun k => impl_pays.f k a l) (runPB a l == a) := by
  have hc := cutsB_in c
  exact Ev.bind (impl_pieces.ev a (by omega) hc.2.1 l hc.2.2.1 (cutsB_in' c)) (Ev.bind (impl_run.pieces c) (Ev.val rfl))
theorem ev_alls {α β : Type} (g : Nat → α → Option β) (v : α → β) : ∀ (L : List α), (∀ l ∈ L, Ev (fun k => g k l) (v l)) → ∃ K, ∀ k, K ≤ k → ∀ l ∈ L, g k l = some (v l)
  | [], _ => ⟨0, fun _ _ l hl => by cases hl⟩
  | a :: L, h => by
    obtain ⟨K1, h1⟩ := ev_alls g v L (fun l hl => h l (by simp [hl]))
    obtain ⟨K2, h2⟩ := h a (by simp)
    refine ⟨max K1 K2, fun k hk l hl => ?_⟩
    rcases List.mem_cons.1 hl with e | e
    · rw [e]; exact h2 k (Nat.le_trans (Nat.le_max_right _ _) hk)
    · exact h1 k (Nat.le_trans (Nat.le_max_left _ _) hk) l e
theorem length_flat {α β : Type} (f : α → List β) (B : Nat) : ∀ (L : List α), (∀ x ∈ L, (f x).length ≤ B) → (L.flatMap f).length ≤ L.length * B
  | [], _ => by simp
  | a :: L, h => by
    have h1 := h a (by simp)
    have h2 := length_flat f B L (fun x hx => h x (by simp [hx]))
    rw [List.flatMap_cons, List.length_append, List.length_cons, Nat.add_mul, Nat.one_mul]
    omega
theorem combL_length (b : Int) : ∀ (d : Nat) (l : List Int) (p : Int), 0 ≤ p → (combL b d l p).length ≤ b.toNat ^ d
  | 0, l, p, _ => by simp [combL]
  | d + 1, l, p, hp => by
    rw [combL]
    refine Nat.le_trans (length_flat _ (b.toNat ^ d) _ (fun i _ => combL_length b d _ _ (by omega))) ?_
    rw [List.length_range, Nat.pow_succ, Nat.mul_comm]
    exact Nat.mul_le_mul_left _ (by omega)
theorem combL_mem (b : Int) : ∀ (d : Nat) (l : List Int) (p : Int), 0 ≤ p → (∀ x ∈ l, 0 ≤ x ∧ x < p ∧ x < b) → l.Pairwise (fun x y => x < y) → ∀ m ∈ combL b d l p, m.length = l.length + d ∧ (∀ x ∈ m, 0 ≤ x ∧ x < b) ∧ m.Pairwise (fun x y => x < y)
  | 0, l, p, hp, hl, hs, m, hm => by
    rw [combL, List.mem_singleton] at hm
    subst hm
    exact ⟨rfl, fun x hx => ⟨(hl x hx).1, (hl x hx).2.2⟩, hs⟩
  | d + 1, l, p, hp, hl, hs, m, hm => by
    rw [combL, List.mem_flatMap] at hm
    obtain ⟨i, hi, hm⟩ := hm
    have hi' := List.mem_range.1 hi
    obtain ⟨h1, h2, h3⟩ := combL_mem b d (l ++ [p + (i : Int)]) (p + (i : Int) + 1) (by omega) (fun x hx => by
      rcases List.mem_append.1 hx with e | e
      · have := hl x e; omega
      · rw [List.mem_singleton.1 e]; omega) (by
      rw [List.pairwise_append]
      refine ⟨hs, by simp, fun x hx y hy => ?_⟩
      rw [List.mem_singleton.1 hy]
      have := hl x hx; omega) m hm
    exact ⟨by rw [h1]; simp; omega, h2, h3⟩
theorem rises_of_pairwise : ∀ l : List Int, l.Pairwise (fun x y => x < y) → risesB l = true
  | [], _ => rfl
  | [_], _ => rfl
  | x :: y :: s, h => by
    rw [List.pairwise_cons] at h
    rw [risesB, rises_of_pairwise (y :: s) h.2, decide_eq_true (h.1 y (by simp))]; rfl
/-- The least number of cuts for a chain of at most 63 links. -/
def fewN (links : Int) : Nat := if 1 < links then (if 7 < links then (if 23 < links then 3 else 2) else 1) else 0
theorem fewN_le (links : Int) : fewN links ≤ 3 := by unfold fewN; split <;> (try split) <;> (try split) <;> omega
theorem comb_cuts (links : Int) (h1 : 1 ≤ links) (h2 : links ≤ 63) : ∀ l ∈ combL links (fewN links) [] 0, cutsB links l = true := by
  intro l hl
  obtain ⟨g1, g2, g3⟩ := combL_mem links (fewN links) [] 0 (by omega) (fun x hx => by cases hx) List.Pairwise.nil l hl
  have := fewN_le links
  unfold cutsB inB
  rw [rises_of_pairwise l g3, decide_eq_true h1, decide_eq_true (by omega), decide_eq_true (by simp at g1; omega)]
  simp only [Bool.true_and, Bool.and_true, List.all_eq_true, Bool.and_eq_true, decide_eq_true_eq]
  intro x hx
  have := g2 x hx; omega
theorem comb_length (links : Int) (h1 : 1 ≤ links) (h2 : links ≤ 63) (P : List Int → Bool) : ((combL links (fewN links) [] 0).filter P).length ≤ 1000000 := by
  refine Nat.le_trans (List.length_filter_le _ _) (Nat.le_trans (combL_length links (fewN links) [] 0 (by omega)) ?_)
  have a : links.toNat ^ fewN links ≤ 63 ^ fewN links := Nat.pow_le_pow_left (by omega) _
  have b : 63 ^ fewN links ≤ 63 ^ 3 := Nat.pow_le_pow_right (by omega) (fewN_le links)
  have c : (63 : Nat) ^ 3 = 250047 := by decide
  omega
def allCutsB (links : Int) : List (List Int) := (combL links (fewN links) [] 0).filter fun l => runPB links l == links
theorem mostLinks_0 : impl_mostLinks.f 0 = some 1 := by kernel_rfl
theorem mostLinks_1 : impl_mostLinks.f (wrap64 (0 + 1)) = some 7 := by kernel_rfl
theorem mostLinks_2 : impl_mostLinks.f (wrap64 (wrap64 (0 + 1) + 1)) = some 23 := by kernel_rfl
theorem mostLinks_3 : impl_mostLinks.f (wrap64 (wrap64 (wrap64 (0 + 1) + 1) + 1)) = some 63 := by kernel_rfl
theorem fewO_ev (links : Int) (h1 : 1 ≤ links) (h2 : links ≤ 63) : Ev (fun k => fewO links k 0) (fewN links : Int) := by
  refine Ev.step (f := fun k => if 1 < links then fewO links k (wrap64 (0 + 1)) else some 0) (fun k => by rw [fewO, mostLinks_0, Option.bind_some]) ?_
  refine Ev.ite (fun c1 => ?_) (fun c1 => Ev.val (by unfold fewN; rw [if_neg c1]; rfl))
  refine Ev.step (f := fun k => if 7 < links then fewO links k (wrap64 (wrap64 (0 + 1) + 1)) else some (wrap64 (0 + 1))) (fun k => by rw [fewO, mostLinks_1, Option.bind_some]) ?_
  refine Ev.ite (fun c2 => ?_) (fun c2 => Ev.val (by unfold fewN; rw [if_pos c1, if_neg c2]; kernel_rfl))
  refine Ev.step (f := fun k => if 23 < links then fewO links k (wrap64 (wrap64 (wrap64 (0 + 1) + 1) + 1)) else some (wrap64 (wrap64 (0 + 1) + 1))) (fun k => by rw [fewO, mostLinks_2, Option.bind_some]) ?_
  refine Ev.ite (fun c3 => ?_) (fun c3 => Ev.val (by unfold fewN; rw [if_pos c1, if_pos c2, if_neg c3]; kernel_rfl))
  refine Ev.step (f := fun _ => some (wrap64 (wrap64 (wrap64 (0 + 1) + 1) + 1))) (fun k => by rw [fewO, mostLinks_3, Option.bind_some, if_neg (by omega)]) ?_
  exact Ev.val (by unfold fewN; rw [if_pos c1, if_pos c2, if_pos c3]; kernel_rfl)
def allPayB (links : Int) : List (List Int) × Bool := if 1 ≤ links ∧ links ≤ 63 then (allCutsB links, true) else ([], false)
theorem impl_allPaying.ev (links : Int) : Ev (fun k => impl_allPaying.f k links) (allPayB links) := by
  unfold impl_allPaying.f
  refine Ev.ite (fun c => ?_) (fun c => Ev.val (by rw [allPayB, if_neg c]))
  refine Ev.bind (fewO_ev links c.1 c.2) ?_
  obtain ⟨K, h⟩ := ev_alls (fun k l => impl_pays.f k links l) (fun l => runPB links l == links) (combL links (fewN links) [] 0) (fun l hl => impl_pays.ev (comb_cuts links c.1 c.2 l hl))
  refine ⟨K, fun k hk => ?_⟩
  have e : (combL links (fewN links) [] 0).filter (payI k links) = allCutsB links := List.filter_congr (fun l hl => by unfold payI; rw [h k hk l hl]; rfl)
  show allPayO k links (fewN links : Int) = _
  unfold allPayO
  rw [Int.toNat_natCast, e, if_pos ⟨by omega, by have := fewN_le links; omega, List.all_eq_true.2 (fun l hl => by rw [h k hk l hl]; rfl), comb_length links c.1 c.2 _⟩, allPayB, if_pos c]
theorem chMost_0 : spec_chMost.f 0 = some 1 := by kernel_rfl
theorem chMost_1 : spec_chMost.f (wrap64 (0 + 1)) = some 7 := by kernel_rfl
theorem chMost_2 : spec_chMost.f (wrap64 (wrap64 (0 + 1) + 1)) = some 23 := by kernel_rfl
theorem chMost_3 : spec_chMost.f (wrap64 (wrap64 (wrap64 (0 + 1) + 1) + 1)) = some 63 := by kernel_rfl
theorem spec_chFewest.ev (links : Int) (h1 : 1 ≤ links) (h2 : links ≤ 63) : Ev (fun k => spec_chFewest.f k links) (fewN links : Int) := by
  unfold spec_chFewest.f
  refine Ev.step (f := fun k => if 1 < links then spec_chFewest.l0 k links (wrap64 (0 + 1)) else some 0) (fun k => by rw [spec_chFewest.l0, chMost_0, Option.bind_some]) ?_
  refine Ev.ite (fun c1 => ?_) (fun c1 => Ev.val (by unfold fewN; rw [if_neg c1]; rfl))
  refine Ev.step (f := fun k => if 7 < links then spec_chFewest.l0 k links (wrap64 (wrap64 (0 + 1) + 1)) else some (wrap64 (0 + 1))) (fun k => by rw [spec_chFewest.l0, chMost_1, Option.bind_some]) ?_
  refine Ev.ite (fun c2 => ?_) (fun c2 => Ev.val (by unfold fewN; rw [if_pos c1, if_neg c2]; kernel_rfl))
  refine Ev.step (f := fun k => if 23 < links then spec_chFewest.l0 k links (wrap64 (wrap64 (wrap64 (0 + 1) + 1) + 1)) else some (wrap64 (wrap64 (0 + 1) + 1))) (fun k => by rw [spec_chFewest.l0, chMost_2, Option.bind_some]) ?_
  refine Ev.ite (fun c3 => ?_) (fun c3 => Ev.val (by unfold fewN; rw [if_pos c1, if_pos c2, if_neg c3]; kernel_rfl))
  refine Ev.step (f := fun _ => some (wrap64 (wrap64 (wrap64 (0 + 1) + 1) + 1))) (fun k => by rw [spec_chFewest.l0, chMost_3, Option.bind_some, if_neg (by omega)]) ?_
  exact Ev.val (by unfold fewN; rw [if_pos c1, if_pos c2, if_pos c3]; kernel_rfl)
theorem spec_chAll.ev (links : Int) (h1 : 1 ≤ links) (h2 : links ≤ 63) : Ev (fun k => spec_chAll.f k links) (allCutsB links) := by
  unfold spec_chAll.f
  refine Ev.bind (spec_chFewest.ev links h1 h2) ?_
  obtain ⟨K, h⟩ := ev_alls (fun k l => spec_chPay.f k links l) (fun l => runPB links l == links) (combL links (fewN links) [] 0) (fun l hl => spec_chPay.ev (comb_cuts links h1 h2 l hl))
  refine ⟨K, fun k hk => ?_⟩
  have e : (combL links (fewN links) [] 0).filter (payS k links) = allCutsB links := List.filter_congr (fun l hl => by unfold payS; rw [h k hk l hl]; rfl)
  show chAllO k links (fewN links : Int) = _
  unfold chAllO
  rw [Int.toNat_natCast, e, if_pos ⟨by omega, by omega, by omega, by have := fewN_le links; omega, List.all_eq_true.2 (fun l hl => by rw [h k hk l hl]; rfl), comb_length links h1 h2 _⟩]
theorem inB_iff' (a b c : Int) : inB a b c = true ↔ b ≤ a ∧ a ≤ c := by simp [inB]
/-- Cuts that pay, for each chain. -/
def someCuts (links : Int) : List Int := if links ≤ 1 then [] else if links ≤ 7 then [if links ≤ 2 then 1 else 2] else if links ≤ 23 then [3, if links ≤ 10 then links - 1 else 10] else [4, 13, if links ≤ 30 then links - 1 else 30]
def insI (n : Int) : List Int → List Int
  | [] => [n]
  | x :: s => if n ≤ x then n :: x :: s else x :: insI n s
def isortI : List Int → List Int
  | [] => []
  | x :: s => insI x (isortI s)
theorem insI_perm (n : Int) : ∀ l : List Int, (insI n l).Perm (n :: l)
  | [] => List.Perm.refl _
  | x :: s => by
    rw [insI]
    split
    · exact List.Perm.refl _
    · exact ((insI_perm n s).cons x).trans (List.Perm.swap _ _ _)
theorem insI_sorted (n : Int) : ∀ l : List Int, l.Pairwise (fun x y => x ≤ y) → (insI n l).Pairwise (fun x y => x ≤ y)
  | [], _ => by simp [insI]
  | x :: s, h => by
    rw [List.pairwise_cons] at h
    rw [insI]
    split
    · rename_i c
      refine List.pairwise_cons.2 ⟨fun y hy => ?_, List.pairwise_cons.2 h⟩
      rcases List.mem_cons.1 hy with e | e
      · rw [e]; exact c
      · have := h.1 y e; omega
    · refine List.pairwise_cons.2 ⟨fun y hy => ?_, insI_sorted n s h.2⟩
      rcases List.mem_cons.1 ((insI_perm n s).subset hy) with e | e
      · omega
      · exact h.1 y e
theorem isortI_perm : ∀ l : List Int, (isortI l).Perm l
  | [] => List.Perm.refl _
  | x :: s => (insI_perm x (isortI s)).trans ((isortI_perm s).cons x)
theorem isortI_sorted : ∀ l : List Int, (isortI l).Pairwise (fun x y => x ≤ y)
  | [] => List.Pairwise.nil
  | x :: s => insI_sorted x (isortI s) (isortI_sorted s)
theorem sortL_isort (l : List Int) : sortL l = isortI l := perm_sorted_eq _ _ ((sortL_perm l).trans (isortI_perm l).symm) (sortL_sorted l) (isortI_sorted l)
def okC (b : Int) : Int → List Int → Bool
  | _, [] => true
  | p, x :: s => decide (p ≤ x) && decide (x < b) && okC b (x + 1) s
theorem combL_of (b : Int) : ∀ (s l : List Int) (p : Int), okC b p s = true → l ++ s ∈ combL b s.length l p
  | [], l, p, _ => by simp [combL]
  | x :: s, l, p, h => by
    rw [okC, Bool.and_eq_true, Bool.and_eq_true, decide_eq_true_eq, decide_eq_true_eq] at h
    have := combL_of b s (l ++ [x]) (x + 1) h.2
    rw [List.length_cons, combL, List.mem_flatMap]
    refine ⟨(x - p).toNat, List.mem_range.2 (by omega), ?_⟩
    rw [show p + ((x - p).toNat : Int) = x by omega]
    simpa using this
theorem someCuts_all : ((List.range 64).all fun i => decide (i = 0) || (okC (i : Int) 0 (someCuts (i : Int)) && decide ((someCuts (i : Int)).length = fewN (i : Int)) && runL (isortI (partsL (i : Int) (someCuts (i : Int)) 0)) 0 == (i : Int))) = true := by kernel_rfl
theorem allCuts_some (links : Int) (h1 : 1 ≤ links) (h2 : links ≤ 63) : someCuts links ∈ allCutsB links := by
  obtain ⟨i, rfl⟩ := Int.eq_ofNat_of_zero_le (show (0 : Int) ≤ links by omega)
  have h := List.all_eq_true.1 someCuts_all i (List.mem_range.2 (by omega))
  rw [decide_eq_false (by omega), Bool.false_or, Bool.and_eq_true, Bool.and_eq_true, decide_eq_true_eq] at h
  have hm := combL_of (i : Int) (someCuts (i : Int)) [] 0 h.1.1
  rw [h.1.2] at hm
  unfold allCutsB
  refine List.mem_filter.2 ⟨by simpa using hm, ?_⟩
  show (runPB (i : Int) (someCuts (i : Int)) == (i : Int)) = true
  unfold runPB piecesB
  rw [sortL_isort]; exact h.2
theorem allCuts_pos (links : Int) (h1 : 1 ≤ links) (h2 : links ≤ 63) : 0 < (allCutsB links).length := List.length_pos_of_mem (allCuts_some links h1 h2)
def firstCutsB (links : Int) : List Int × Bool := if 1 ≤ links ∧ links ≤ 63 then (rd_L1 (allCutsB links) 0, true) else ([], false)
theorem firstCutsB_length (links : Int) : (firstCutsB links).1.length ≤ 1000 := by
  unfold firstCutsB
  split
  · rename_i c
    have hp := allCuts_pos links c.1 c.2
    have e : rd_L1 (allCutsB links) 0 = (allCutsB links)[0] := by
      unfold rd_L1
      simp [List.getD_eq_getElem?_getD, List.getElem?_eq_getElem hp]
    have hm : rd_L1 (allCutsB links) 0 ∈ combL links (fewN links) [] 0 := by
      rw [e]; exact (List.mem_filter.1 (List.getElem_mem hp)).1
    have := (cutsB_in (comb_cuts links c.1 c.2 _ hm)).2.2.1
    show (rd_L1 (allCutsB links) 0).length ≤ 1000
    omega
  · simp
theorem impl_FirstCuts.ev (links : Int) : Ev (fun k => impl_FirstCuts.f k links) (firstCutsB links) := by
  refine Ev.bind (impl_allPaying.ev links) ?_
  by_cases c : 1 ≤ links ∧ links ≤ 63
  · have hp := allCuts_pos links c.1 c.2
    rw [allPayB, if_pos c, firstCutsB, if_pos c]
    exact Ev.pos rfl (Ev.neg (by simp; intro h; rw [h] at hp; simp at hp) (Ev.pos (by simp; exact hp) (Ev.val rfl)))
  · rw [allPayB, if_neg c, firstCutsB, if_neg c]
    exact Ev.neg (by simp) (Ev.val rfl)
theorem spec_FirstCuts.ev (links : Int) : Ev (fun k => spec_FirstCuts.f k links) (firstCutsB links) := by
  unfold spec_FirstCuts.f
  refine Ev.bindc (spec_l1In.valB links 1 63) (Ev.ite (fun c => ?_) (fun c => Ev.val ?_))
  · have c' := (inB_iff' _ _ _).1 c
    refine Ev.bind (spec_chAll.ev links c'.1 c'.2) (Ev.pos (by have := allCuts_pos links c'.1 c'.2; omega) (Ev.val (by rw [firstCutsB, if_pos c'])))
  · have c' : ¬ (1 ≤ links ∧ links ≤ 63) := fun h => c ((inB_iff' _ _ _).2 h)
    rw [firstCutsB, if_neg c']
theorem FnExactFirstCuts : laws_FnExactFirstCuts.Pure := by
  intro a _
  refine Ev.rounds (g := fun n => laws_FnExactFirstCuts.f n a) ?_
  unfold laws_FnExactFirstCuts.f
  have hR := firstCutsB_length a
  have hs := spec_FirstCuts.ev a
  have hi := impl_FirstCuts.ev a
  generalize firstCutsB a = R at *
  have heR := laws_eqIntS.ev R.1 R.1 (by omega)
  rw [decide_eq_true rfl] at heR
  refine Ev.bind hs (Ev.bind hi (Ev.bind heR (Ev.pos rfl ?_)))
  apply Ev.step
  · intro k; rw [laws_FnExactFirstCuts.j0]
  refine Ev.neg (by simp) (Ev.bind (laws_markIntS.ev R.1 (by omega)) (Ev.bind (laws_heldIntS.ev R.1.length (by omega)) (Ev.neg (by omega) (Ev.pos rfl (Ev.bind hi (Ev.bind heR (Ev.pos rfl ?_)))))))
  apply Ev.step
  · intro k; rw [laws_FnExactFirstCuts.j1]
  exact Ev.neg (by simp) (Ev.bind (laws_heldIntS.ev R.1.length (by omega)) (Ev.neg (by omega) (Ev.pos rfl (Ev.val rfl))))
end Go.Proofs.Ytbpmakcgiepkhaa.Pure
