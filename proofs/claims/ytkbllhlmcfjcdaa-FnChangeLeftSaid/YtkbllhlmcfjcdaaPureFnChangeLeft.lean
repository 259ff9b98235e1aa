/- For all arguments within the row's reach the law FnChangeLeft answers true.
No further conditions. -/
import Derived.Test.YtkbllhlmcfjcdaaPFnChangeLeftx0
import Derived.Test.YtkbllhlmcfjcdaaPFnChangeLeftx1
import Derived.Test.YtkbllhlmcfjcdaaPFnChangeLeftx10
import Derived.Test.YtkbllhlmcfjcdaaPFnChangeLeftx11
import Derived.Test.YtkbllhlmcfjcdaaPFnChangeLeftx12
import Derived.Test.YtkbllhlmcfjcdaaPFnChangeLeftx13
import Derived.Test.YtkbllhlmcfjcdaaPFnChangeLeftx14
import Derived.Test.YtkbllhlmcfjcdaaPFnChangeLeftx2
import Derived.Test.YtkbllhlmcfjcdaaPFnChangeLeftx3
import Derived.Test.YtkbllhlmcfjcdaaPFnChangeLeftx4
import Derived.Test.YtkbllhlmcfjcdaaPFnChangeLeftx5
import Derived.Test.YtkbllhlmcfjcdaaPFnChangeLeftx6
import Derived.Test.YtkbllhlmcfjcdaaPFnChangeLeftx7
import Derived.Test.YtkbllhlmcfjcdaaPFnChangeLeftx8
import Derived.Test.YtkbllhlmcfjcdaaPFnChangeLeftx9
set_option linter.unusedVariables false
set_option linter.unusedSimpArgs false
namespace Go.Proofs.Ytkbllhlmcfjcdaa.Pure
open Go.RowKit Go.Proofs.Ytkbllhlmcfjcdaa.PFnChangeLeft Go.Proofs.YtkbllhlmcfjcdaaW.PrintWords Go.Proofs.YtkbllhlmcfjcdaaW.PrintLast Go.Proofs.YtkbllhlmcfjcdaaW.PrintMore
theorem Ev.pos {α : Type} {c : Prop} [Decidable c] {g f : Nat → Option α} {r : α} (hc : c) (h : Ev g r) : Ev (fun k => if c then g k else f k) r := by
 obtain ⟨K, h⟩ := h
 exact ⟨K, fun k hk => by show (if c then g k else f k) = _; rw [if_pos hc]; exact h k hk⟩
theorem Ev.neg {α : Type} {c : Prop} [Decidable c] {g f : Nat → Option α} {r : α} (hc : ¬ c) (h : Ev f r) : Ev (fun k => if c then g k else f k) r := by
 obtain ⟨K, h⟩ := h
 exact ⟨K, fun k hk => by show (if c then g k else f k) = _; rw [if_neg hc]; exact h k hk⟩
theorem Ev.val {α : Type} {a r : α} (h : a = r) : Ev (fun _ => some a) r := ⟨0, fun _ _ => by rw [h]⟩
theorem Ev.bindc {α β : Type} {a : Option α} {f : Nat → α → Option β} {x : α} {r : β} (h : a = some x) (k : Ev (fun n => f n x) r) : Ev (fun n => a.bind (f n)) r := by
 obtain ⟨K, k⟩ := k
 exact ⟨K, fun n hn => by show a.bind (f n) = _; rw [h]; exact k n hn⟩
theorem Ev.eq {α : Type} {g : Nat → Option α} {r r' : α} (h : Ev g r) (e : r = r') : Ev g r' := e ▸ h
def inB (a b c : Int) : Bool := decide (b ≤ a) && decide (a ≤ c)
theorem Ev.ite {α : Type} {c : Prop} [Decidable c] {g f : Nat → Option α} {r : α} (h : c → Ev g r) (h' : ¬ c → Ev f r) : Ev (fun k => if c then g k else f k) r := by
 by_cases hc : c
 · exact Ev.pos hc (h hc)
 exact Ev.neg hc (h' hc)
theorem rd_eq (l : List Int) (i : Nat) (h : i < l.length) : rd l (i : Int) = l[i] := by simp [rd, List.getD_eq_getElem?_getD, List.getElem?_eq_getElem h]
theorem rd_app (p : List Int) (x : Int) (s : List Int) : rd (p ++ x :: s) (p.length : Int) = x := by simp [rd, List.getD_eq_getElem?_getD]
theorem w64 {n : Int} (h0 : -9223372036854775808 ≤ n) (h1 : n ≤ 9223372036854775807) : wrap64 n = n := by unfold wrap64; omega
theorem spec_l1In.val (a b c : Int) : spec_l1In.f a b c = some (decide (b ≤ a) && decide (a ≤ c)) := by
 unfold spec_l1In.f
 by_cases h : a ≥ b
 · rw [if_pos h]; simp [show b ≤ a from h]
 rw [if_neg h]; simp [show ¬ b ≤ a from h]
theorem spec_l1In.valB (a b c : Int) : spec_l1In.f a b c = some (inB a b c) := spec_l1In.val a b c
theorem impl_within.val (a b c : Int) : impl_within.f a b c = some (decide (b ≤ a) && decide (a ≤ c)) := by
 unfold impl_within.f
 by_cases h : b ≤ a
 · rw [if_pos h]; simp [h]
 rw [if_neg h]; simp [h]
theorem impl_within.valB (a b c : Int) : impl_within.f a b c = some (inB a b c) := impl_within.val a b c
theorem spec_l1All.ev_l (a b : Int) (s : List Int) : ∀ (p : List Int), p.length + s.length ≤ 9223372036854775807 → Ev (fun k => spec_l1All.l0 k a b (p ++ s) ((p ++ s).length : Int) (p.length : Int)) (s.all fun x => decide (a ≤ x) && decide (x ≤ b)) := by
 induction s with
 | nil =>
  intro p hp
  refine Ev.step (f := fun _ => some true) (fun k => ?_) (Ev.val (by simp))
  rw [spec_l1All.l0, if_neg (by simp)]
 | cons x s ih =>
  intro p hp
  simp only [List.length_cons] at hp
  have h := ih (p ++ [x]) (by simp <;> omega)
  by_cases c : (decide (a ≤ x) && decide (x ≤ b)) = true
  · refine Ev.step (f := fun k => spec_l1All.l0 k a b ((p ++ [x]) ++ s) (((p ++ [x]) ++ s).length : Int) ((p ++ [x]).length : Int)) (fun k => ?_) (Ev.eq h (by simp only [List.all_cons]; rw [c]; rfl))
    rw [spec_l1All.l0, if_pos (by simp <;> omega), if_pos (by omega), if_pos (by simp <;> omega), rd_app, spec_l1In.val, Option.bind_some, if_pos c, w64 (by omega) (by omega)]
    simp
  refine Ev.step (f := fun _ => some false) (fun k => ?_) (Ev.val (by simp only [List.all_cons]; rw [Bool.not_eq_true] at c; rw [c]; rfl))
  rw [spec_l1All.l0, if_pos (by simp <;> omega), if_pos (by omega), if_pos (by simp <;> omega), rd_app, spec_l1In.val, Option.bind_some, if_neg c]
theorem spec_l1All.ev (l : List Int) (a b : Int) (hl : l.length ≤ 9223372036854775807) : Ev (fun k => spec_l1All.f k l a b) (l.all fun x => decide (a ≤ x) && decide (x ≤ b)) :=
 spec_l1All.ev_l a b l [] (by simpa using hl)
theorem impl_areWithin.val (l : List Int) (a b : Int) : impl_areWithin.f l a b = some (l.all fun x => decide (a ≤ x) && decide (x ≤ b)) := rfl
/-- Each element is greater than the one before. -/
def risesB : List Int → Bool
 | [] => true
 | [_] => true
 | x :: y :: s => decide (x < y) && risesB (y :: s)
theorem rises_of_pairwise : ∀ l : List Int, l.Pairwise (fun x y => x < y) → risesB l = true
 | [], _ => rfl
 | [_], _ => rfl
 | x :: y :: s, h => by
  rw [List.pairwise_cons] at h
  rw [risesB, rises_of_pairwise (y :: s) h.2, decide_eq_true (h.1 y (by simp))]; rfl
theorem spec_l1Rising.ev_l (a b : Int) (s : List Int) : ∀ (p : List Int) (x : Int), p.length + s.length + 1 ≤ 9223372036854775806 → Ev (fun k => spec_l1Rising.l0 k (p ++ x :: s) a b (p ++ x :: s) ((p ++ x :: s).length : Int) ((p.length + 1 : Nat) : Int)) ((s.all fun x => inB x a b) && risesB (x :: s)) := by
 induction s with
 | nil =>
  intro p x hp
  refine Ev.step (f := fun _ => some true) (fun k => ?_) (Ev.val (by simp [risesB]))
  rw [spec_l1Rising.l0, if_neg (by simp)]
 | cons y s ih =>
  intro p x hp
  simp only [List.length_cons] at hp
  have e1 : rd (p ++ x :: y :: s) (p.length : Int) = x := rd_app p x _
  have e2 : rd (p ++ x :: y :: s) ((p.length + 1 : Nat) : Int) = y := by
   have := rd_app (p ++ [x]) y s
   simpa using this
  have hw : wrap64 (((p.length + 1 : Nat) : Int) - 1) = (p.length : Int) := by rw [w64 (by omega) (by omega)]; omega
  have h := ih (p ++ [x]) y (by simp <;> omega)
  by_cases c : inB y a b = true
  · by_cases c2 : x < y
    · refine Ev.step (f := fun k => spec_l1Rising.l0 k ((p ++ [x]) ++ y :: s) a b ((p ++ [x]) ++ y :: s) (((p ++ [x]) ++ y :: s).length : Int) (((p ++ [x]).length + 1 : Nat) : Int)) (fun k => ?_) (Ev.eq h (by simp only [List.all_cons, c, risesB, c2, decide_true, Bool.true_and]))
      rw [spec_l1Rising.l0, if_pos (by simp <;> omega), if_pos (by omega), if_pos (by simp <;> omega), e2, spec_l1In.valB, Option.bind_some, if_pos c, if_pos (by omega), hw, if_pos (by omega), if_pos (by simp <;> omega), e1, if_neg (by omega), w64 (by omega) (by omega)]
      simp
    refine Ev.step (f := fun _ => some false) (fun k => ?_) (Ev.val (by simp [risesB, c2]))
    rw [spec_l1Rising.l0, if_pos (by simp <;> omega), if_pos (by omega), if_pos (by simp <;> omega), e2, spec_l1In.valB, Option.bind_some, if_pos c, if_pos (by omega), hw, if_pos (by omega), if_pos (by simp <;> omega), e1, if_pos (by omega)]
  refine Ev.step (f := fun _ => some false) (fun k => ?_) (Ev.val (by simp only [List.all_cons]; rw [Bool.not_eq_true] at c; rw [c]; rfl))
  rw [spec_l1Rising.l0, if_pos (by simp <;> omega), if_pos (by omega), if_pos (by simp <;> omega), e2, spec_l1In.valB, Option.bind_some, if_neg c]
theorem spec_l1Rising.ev (l : List Int) (a b : Int) (hl : l.length ≤ 9223372036854775806) : Ev (fun k => spec_l1Rising.f k l a b) ((l.all fun x => inB x a b) && risesB l) := by
 unfold spec_l1Rising.f
 cases l with
 | nil =>
  refine Ev.step (f := fun _ => some true) (fun k => ?_) (Ev.val (by simp [risesB]))
  rw [spec_l1Rising.l0, if_neg (by simp)]
 | cons x s =>
  have h := spec_l1Rising.ev_l a b s [] x (by simpa using hl)
  simp only [List.length_cons] at hl
  have e1 : rd (x :: s) 0 = x := by simp [rd]
  by_cases c : inB x a b = true
  · refine Ev.step (f := fun k => spec_l1Rising.l0 k (x :: s) a b (x :: s) ((x :: s).length : Int) ((([] : List Int).length + 1 : Nat) : Int)) (fun k => ?_) (Ev.eq h (by simp [c]))
    rw [spec_l1Rising.l0, if_pos (by simp <;> omega), if_pos (by omega), if_pos (by simp <;> omega), e1, spec_l1In.valB, Option.bind_some, if_pos c, if_neg (by omega), w64 (by omega) (by omega)]
    simp
  refine Ev.step (f := fun _ => some false) (fun k => ?_) (Ev.val (by simp only [List.all_cons]; rw [Bool.not_eq_true] at c; rw [c]; rfl))
  rw [spec_l1Rising.l0, if_pos (by simp <;> omega), if_pos (by omega), if_pos (by simp <;> omega), e1, spec_l1In.valB, Option.bind_some, if_neg c]
theorem impl_rises.ev_l (s : List Int) : ∀ (p : List Int) (x : Int), p.length + s.length + 1 ≤ 9223372036854775806 → Ev (fun k => impl_rises.l0 k (p ++ x :: s) ((p.length + 1 : Nat) : Int)) (risesB (x :: s)) := by
 induction s with
 | nil =>
  intro p x hp
  refine Ev.step (f := fun _ => some true) (fun k => ?_) (Ev.val (by simp [risesB]))
  rw [impl_rises.l0, if_neg (by simp)]
 | cons y s ih =>
  intro p x hp
  simp only [List.length_cons] at hp
  have e1 : rd (p ++ x :: y :: s) (p.length : Int) = x := rd_app p x _
  have e2 : rd (p ++ x :: y :: s) ((p.length + 1 : Nat) : Int) = y := by
   have := rd_app (p ++ [x]) y s
   simpa using this
  have hw : wrap64 (((p.length + 1 : Nat) : Int) - 1) = (p.length : Int) := by rw [w64 (by omega) (by omega)]; omega
  by_cases c : x < y
  · have h := ih (p ++ [x]) y (by simp <;> omega)
    refine Ev.step (f := fun k => impl_rises.l0 k ((p ++ [x]) ++ y :: s) (((p ++ [x]).length + 1 : Nat) : Int)) (fun k => ?_) (Ev.eq h (by simp [risesB, c]))
    rw [impl_rises.l0, if_pos (by simp <;> omega), hw, if_pos (by omega), if_pos (by simp <;> omega), if_pos (by omega), e1, e2, if_neg (by omega), w64 (by omega) (by omega)]
    simp
  refine Ev.step (f := fun _ => some false) (fun k => ?_) (Ev.val (by simp [risesB, c]))
  rw [impl_rises.l0, if_pos (by simp <;> omega), hw, if_pos (by omega), if_pos (by simp <;> omega), if_pos (by omega), e1, e2, if_pos (by omega)]
theorem impl_rises.ev (l : List Int) (hl : l.length ≤ 9223372036854775806) : Ev (fun k => impl_rises.f k l) (risesB l) := by
 unfold impl_rises.f
 cases l with
 | nil =>
  refine Ev.step (f := fun _ => some true) (fun k => ?_) (Ev.val (by simp [risesB]))
  rw [impl_rises.l0, if_neg (by simp)]
 | cons x s => exact impl_rises.ev_l s [] x (by simp at hl ⊢; omega)
theorem risesB_head {x : Int} {s : List Int} (h : risesB (x :: s) = true) : ∀ y ∈ s, x < y := by
 induction s generalizing x with
 | nil => simp
 | cons z s ih =>
  simp only [risesB, Bool.and_eq_true, decide_eq_true_eq] at h
  intro y hy
  rcases List.mem_cons.1 hy with rfl | hy
  · exact h.1
  have := ih h.2 y hy; omega
theorem risesB_last {l : List Int} (h : risesB l = true) (hne : l ≠ []) : ∀ y ∈ l, y ≤ l.getLast hne := by
 induction l with
 | nil => exact absurd rfl hne
 | cons x s ih =>
  intro y hy
  cases s with
  | nil => simp at hy; simp [hy]
  | cons z s =>
   have h2 : risesB (z :: s) = true := by simp only [risesB, Bool.and_eq_true] at h; exact h.2
   rw [List.getLast_cons (by simp)]
   rcases List.mem_cons.1 hy with rfl | hy
   · have h1 := risesB_head h z (by simp)
     have := ih h2 (by simp) z (by simp)
     omega
   exact ih h2 (by simp) y hy
theorem rd_last (x : Int) (s : List Int) : rd (x :: s) (s.length : Int) = (x :: s).getLast (by simp) := by
 rw [List.getLast_eq_getElem, rd_eq (x :: s) s.length (by simp)]
 simp
theorem pairwise_of_rises : ∀ l : List Int, risesB l = true → l.Pairwise (fun x y => x < y)
 | [], _ => List.Pairwise.nil
 | x :: s, h => List.pairwise_cons.2 ⟨risesB_head h, pairwise_of_rises s (by
  cases s with
  | nil => rfl
  | cons y s => rw [risesB, Bool.and_eq_true] at h; exact h.2)⟩
/-- A table of N values. -/
def tab (N : Nat) (f : Int → Int) : List Int := (List.range N).map fun (i : Nat) => f (i : Int)
theorem tab_length (N : Nat) (f : Int → Int) : (tab N f).length = N := by simp [tab]
theorem rd_tab (N : Nat) (f : Int → Int) (i : Int) (h0 : 0 ≤ i) (h1 : i < N) : rd (tab N f) i = f i := by
 obtain ⟨n, rfl⟩ := Int.eq_ofNat_of_zero_le h0
 rw [rd_eq _ _ (by rw [tab_length]; omega)]
 simp [tab]
theorem tab_congr (N : Nat) (f g : Int → Int) (h : ∀ i : Int, 0 ≤ i → i < N → f i = g i) : tab N f = tab N g := by
 unfold tab
 apply List.map_congr_left
 intro i hi
 exact h i (by omega) (by have := List.mem_range.1 hi; omega)
theorem tab_set (N : Nat) (f : Int → Int) (i : Int) (v : Int) (h0 : 0 ≤ i) : (tab N f).set i.toNat v = tab N (fun j => if j = i then v else f j) := by
 obtain ⟨n, rfl⟩ := Int.eq_ofNat_of_zero_le h0
 apply List.ext_getElem?
 intro j
 unfold tab
 by_cases hj : j < N
 · by_cases e : n = j
   · subst e
     simp [hj]
   rw [List.getElem?_set_ne (by simpa using e)]
   simp [hj]
   omega
 rw [List.getElem?_eq_none (by simp; omega), List.getElem?_eq_none (by simp; omega)]
theorem sum_nonneg (l : List Int) (hl : ∀ x ∈ l, 0 ≤ x) : 0 ≤ l.sum := by
 induction l with
 | nil => simp
 | cons x t ih =>
  have hx := hl x (by simp)
  have := ih (fun y hy => hl y (by simp [hy]))
  rw [List.sum_cons]; omega
theorem sum_le (l : List Int) (B : Int) (hl : ∀ x ∈ l, x ≤ B) : l.sum ≤ l.length * B := by
 induction l with
 | nil => simp
 | cons x t ih =>
  have hx := hl x (by simp)
  have := ih (fun y hy => hl y (by simp [hy]))
  rw [List.sum_cons, List.length_cons]
  have e : ((t.length + 1 : Nat) : Int) * B = t.length * B + B := by
   rw [show ((t.length + 1 : Nat) : Int) = (t.length : Int) + 1 by omega, Int.add_mul]; omega
  omega
def BytesL (l : List Int) : Prop := l.length ≤ 1048576 ∧ ∀ x ∈ l, 0 ≤ x ∧ x ≤ 255
theorem rd_bytes {l : List Int} (h : BytesL l) {i : Int} (h0 : 0 ≤ i) (h1 : i < (l.length : Int)) : 0 ≤ rd l i ∧ rd l i ≤ 255 := by
 obtain ⟨n, rfl⟩ := Int.eq_ofNat_of_zero_le h0
 have hn : n < l.length := by omega
 rw [rd_eq l n hn]
 exact h.2 _ (List.getElem_mem hn)
theorem u64_range (n : Int) : 0 ≤ IntKind.u64.wrap n ∧ IntKind.u64.wrap n < 18446744073709551616 := by
 have : IntKind.u64.wrap n = n % 18446744073709551616 := by simp [IntKind.wrap, IntKind.bits, IntKind.signed]
 rw [this]; omega
theorem seed_byte (n : Int) : 0 ≤ wrap64 (Go.bits .and .u64 (IntKind.u64.wrap n / 1099511627776) 255) ∧ wrap64 (Go.bits .and .u64 (IntKind.u64.wrap n / 1099511627776) 255) ≤ 255 := by
 have h := u64_range n
 generalize IntKind.u64.wrap n = m at *
 have hk : ∀ n : Int, 0 ≤ n → n < 2 ^ 63 → IntKind.u64.wrap n = n := fun n h0 h1 => by
  have : IntKind.u64.wrap n = n % 18446744073709551616 := by simp [IntKind.wrap, IntKind.bits, IntKind.signed]
  rw [this]; omega
 have e : Go.bits .and .u64 (m / 1099511627776) 255 = (m / 1099511627776) % 256 := Go.bits_mask .u64 63 (by decide) hk 8 (by decide) _ (by omega) (by omega)
 rw [e, w64 (by omega) (by omega)]; omega
theorem cur_next {l : List Int} (h : BytesL l) {a : Int} (b : Int) (h0 : 0 ≤ a) (h1 : a ≤ 1000000000000) : ∃ r t, spec_l1Cur_next.f l a b = some (r, a + 1, t) ∧ 0 ≤ r ∧ r ≤ 255 := by
 have ew : wrap64 (a + 1) = a + 1 := w64 (by omega) (by omega)
 have hl := h.1
 unfold spec_l1Cur_next.f
 rw [ew]
 by_cases c : a < (l.length : Int)
 · have hb := rd_bytes h h0 c
   rw [if_pos c, if_pos h0, if_pos (by omega), w64 (n := rd l a) (by omega) (by omega)]
   exact ⟨_, _, rfl, hb.1, hb.2⟩
 rw [if_neg c, if_neg (by omega)]
 exact ⟨_, _, rfl, (seed_byte _).1, (seed_byte _).2⟩
theorem cur_pick {l : List Int} (h : BytesL l) {a : Int} (b : Int) {n : Int} (h0 : 0 ≤ a) (h1 : a ≤ 999999999999) (hn : 1 ≤ n) (hn' : n ≤ 65536) : ∃ r a' t, spec_l1Cur_pick.f l a b n = some (r, a', t) ∧ 0 ≤ r ∧ r < n ∧ a ≤ a' ∧ a' ≤ a + 2 := by
 unfold spec_l1Cur_pick.f
 by_cases c : n ≤ 1
 · rw [if_pos c]; exact ⟨_, _, _, rfl, by omega, by omega, by omega, by omega⟩
 rw [if_neg c]
 obtain ⟨r, t, e, hr0, hr1⟩ := cur_next h b h0 (by omega)
 rw [e, Option.bind_some]
 by_cases d : n > 200
 · obtain ⟨r', t', e', hr0', hr1'⟩ := cur_next h t (a := a + 1) (by omega) (by omega)
   have e1 : wrap64 (r * 256) = r * 256 := w64 (by omega) (by omega)
   have e2 : wrap64 (r * 256 + r') = r * 256 + r' := w64 (by omega) (by omega)
   simp only
   rw [if_pos d, e', Option.bind_some, if_neg (by omega)]
   simp only
   rw [e1, e2]
   refine ⟨_, _, _, rfl, Int.tmod_nonneg _ (by omega), Int.tmod_lt_of_pos _ (by omega), by omega, by omega⟩
 simp only
 rw [if_neg d, if_neg (by omega)]
 exact ⟨_, _, _, rfl, Int.tmod_nonneg _ hr0, Int.tmod_lt_of_pos _ (by omega), by omega, by omega⟩
theorem cur_among {l : List Int} (h : BytesL l) {a : Int} (b : Int) (m : List Int) (h0 : 0 ≤ a) (h1 : a ≤ 999999999999) (hn : 1 ≤ m.length) (hn' : m.length ≤ 65536) : ∃ r a' t, spec_l1Cur_among.f l a b m = some (r, a', t) ∧ r ∈ m ∧ a ≤ a' ∧ a' ≤ a + 2 := by
 unfold spec_l1Cur_among.f
 obtain ⟨r, a', t, e, hr0, hr1, ha, ha'⟩ := cur_pick h b (n := (m.length : Int)) h0 h1 (by omega) (by omega)
 rw [e, Option.bind_some]
 simp only
 rw [if_pos hr0, if_pos hr1]
 refine ⟨_, _, _, rfl, ?_, ha, ha'⟩
 obtain ⟨n, rfl⟩ := Int.eq_ofNat_of_zero_le hr0
 rw [rd_eq m n (by omega)]
 exact List.getElem_mem _
theorem cur_one {l : List Int} (h : BytesL l) {a : Int} (b : Int) {n : Int} (h0 : 0 ≤ a) (h1 : a ≤ 999999999999) (hn : 1 ≤ n) (hn' : n ≤ 65536) : ∃ r a' t, spec_l1Cur_one.f l a b n = some (r, a', t) ∧ a ≤ a' ∧ a' ≤ a + 2 := by
 unfold spec_l1Cur_one.f
 obtain ⟨r, a', t, e, hr0, hr1, ha, ha'⟩ := cur_pick h b h0 h1 hn hn'
 rw [e, Option.bind_some]
 exact ⟨_, _, _, rfl, ha, ha'⟩
theorem bytes_of {l : List Int} (h1 : l.length ≤ 1048576) (h : ∀ x ∈ l, (Lit.int .u8 x).wf = true) : BytesL l := ⟨h1, fun x hx => by
 have := h x hx
 simp [Lit.wf, IntKind.min, IntKind.max, IntKind.bits, IntKind.signed] at this
 omega⟩
/-- Numbers in order. -/
def rg (i d : Nat) : List Int := (List.range' i d).map fun (j : Nat) => (j : Int)
theorem rg_succ (i d : Nat) : rg i (d + 1) = (i : Int) :: rg (i + 1) d := by simp [rg, List.range'_succ]
theorem rg_snoc (i d : Nat) : rg i (d + 1) = rg i d ++ [((i + d : Nat) : Int)] := by simp [rg, List.range'_1_concat]
theorem rg_length (i d : Nat) : (rg i d).length = d := by simp [rg]
theorem mem_rg {i d : Nat} {x : Int} : x ∈ rg i d ↔ (i : Int) ≤ x ∧ x < (i : Int) + d := by
 unfold rg
 simp only [List.mem_map, List.mem_range'_1]
 constructor
 · rintro ⟨j, hj, rfl⟩; omega
 intro h; exact ⟨x.toNat, by omega, by omega⟩
theorem rg_rises : ∀ (d i : Nat), (rg i d).Pairwise (fun x y => x < y)
 | 0, i => by simp [rg]
 | d + 1, i => by
  rw [rg_succ, List.pairwise_cons]
  exact ⟨fun y hy => by have := (mem_rg.1 hy).1; omega, rg_rises d (i + 1)⟩
theorem laws_tSame.ev_l (s t : List Int) : ∀ (p : List Int), p.length + s.length ≤ 35184372088832 → s.length = t.length → ∀ q : List Int, q.length = p.length → Ev (fun k => laws_tSame.l0 k (p ++ s) (q ++ t) ((p ++ s).length : Int) (p.length : Int)) (decide (s = t)) := by
 induction s generalizing t with
 | nil =>
  intro p hp ht q hq
  obtain rfl : t = [] := List.eq_nil_of_length_eq_zero (by simpa using ht.symm)
  refine Ev.step (f := fun _ => some true) (fun k => ?_) (Ev.val (by simp))
  rw [laws_tSame.l0, if_neg (by simp)]
 | cons x s ih =>
  intro p hp ht q hq
  obtain _ | ⟨y, t⟩ := t
  · simp at ht
  simp only [List.length_cons] at ht hp
  have e1 : rd (p ++ x :: s) (p.length : Int) = x := rd_app p x s
  have e2 : rd (q ++ y :: t) (p.length : Int) = y := by rw [← hq]; exact rd_app q y t
  by_cases e : x = y
  · subst e
    have h := ih t (p ++ [x]) (by simp <;> omega) (by omega) (q ++ [x]) (by simp [hq])
    refine Ev.step (f := fun k => laws_tSame.l0 k ((p ++ [x]) ++ s) ((q ++ [x]) ++ t) (((p ++ [x]) ++ s).length : Int) ((p ++ [x]).length : Int)) (fun k => ?_) (Ev.eq h (by simp))
    rw [laws_tSame.l0, if_pos (by simp <;> omega), if_pos (by omega), if_pos (by simp <;> omega), if_pos (by simp <;> omega), e1, e2, if_pos rfl, w64 (by omega) (by omega)]
    simp
  refine Ev.step (f := fun _ => some false) (fun k => ?_) (Ev.val (by simp [e]))
  rw [laws_tSame.l0, if_pos (by simp <;> omega), if_pos (by omega), if_pos (by simp <;> omega), if_pos (by simp <;> omega), e1, e2, if_neg e]
theorem laws_tSame.ev (s t : List Int) (hl : s.length ≤ 35184372088832) : Ev (fun k => laws_tSame.f k s t) (decide (s = t)) := by
 unfold laws_tSame.f
 refine Ev.ite (fun h => ?_) (fun h => Ev.val ?_)
 · exact laws_tSame.ev_l s t [] (by simpa using hl) (by omega) [] rfl
 have : s ≠ t := by rintro rfl; exact h rfl
 simp [this]
theorem laws_tSum.ev_l (s : List Int) : ∀ (p : List Int) (a : Int), p.length + s.length ≤ 35184372088832 → 0 ≤ a → (∀ x ∈ s, 0 ≤ x) → a + s.sum ≤ 9223372036854775807 → Ev (fun k => laws_tSum.l0 k a (p ++ s) ((p ++ s).length : Int) (p.length : Int)) (a + s.sum) := by
 induction s with
 | nil =>
  intro p a hp h0 _ _
  refine Ev.step (f := fun _ => some a) (fun k => ?_) (Ev.val (by simp))
  rw [laws_tSum.l0, if_neg (by simp)]
 | cons x s ih =>
  intro p a hp h0 hx hs
  simp only [List.length_cons, List.sum_cons] at hp hs
  have e1 : rd (p ++ x :: s) (p.length : Int) = x := rd_app p x s
  have hx0 := hx x (by simp)
  have hsum : 0 ≤ s.sum := by
   have : ∀ l : List Int, (∀ y ∈ l, 0 ≤ y) → 0 ≤ l.sum := fun l => by
    induction l with
    | nil => intro _; simp
    | cons y l ih => intro h; have := ih (fun z hz => h z (by simp [hz])); have := h y (by simp); simp; omega
   exact this s (fun y hy => hx y (by simp [hy]))
  have h := ih (p ++ [x]) (a + x) (by simp; omega) (by omega) (fun y hy => hx y (by simp [hy])) (by omega)
  refine Ev.step (f := fun k => laws_tSum.l0 k (a + x) ((p ++ [x]) ++ s) (((p ++ [x]) ++ s).length : Int) ((p ++ [x]).length : Int)) (fun k => ?_) (Ev.eq h (by simp; omega))
  rw [laws_tSum.l0, if_pos (by simp <;> omega), if_pos (by omega), if_pos (by simp <;> omega), e1, w64 (n := a + x) (by omega) (by omega), w64 (by omega) (by omega)]
  simp
theorem laws_tSum.ev (s : List Int) (hl : s.length ≤ 35184372088832) (h0 : ∀ x ∈ s, 0 ≤ x) (hs : s.sum ≤ 9223372036854775807) : Ev (fun k => laws_tSum.f k s) s.sum := Ev.eq (laws_tSum.ev_l s [] 0 (by simpa using hl) (by omega) h0 (by omega)) (by simp)
theorem laws_tHas.ev_l (n : Int) (s : List Int) : ∀ (p : List Int), p.length + s.length ≤ 35184372088832 → Ev (fun k => laws_tHas.l0 k n (p ++ s) ((p ++ s).length : Int) (p.length : Int)) (decide (n ∈ s)) := by
 induction s with
 | nil =>
  intro p hp
  refine Ev.step (f := fun _ => some false) (fun k => ?_) (Ev.val (by simp))
  rw [laws_tHas.l0, if_neg (by simp)]
 | cons x s ih =>
  intro p hp
  simp only [List.length_cons] at hp
  have e1 : rd (p ++ x :: s) (p.length : Int) = x := rd_app p x s
  by_cases e : x = n
  · refine Ev.step (f := fun _ => some true) (fun k => ?_) (Ev.val (by simp [e]))
    rw [laws_tHas.l0, if_pos (by simp <;> omega), if_pos (by omega), if_pos (by simp <;> omega), e1, if_pos e]
  have h := ih (p ++ [x]) (by simp; omega)
  refine Ev.step (f := fun k => laws_tHas.l0 k n ((p ++ [x]) ++ s) (((p ++ [x]) ++ s).length : Int) ((p ++ [x]).length : Int)) (fun k => ?_) (Ev.eq h (by simp [Ne.symm e]))
  rw [laws_tHas.l0, if_pos (by simp <;> omega), if_pos (by omega), if_pos (by simp <;> omega), e1, if_neg e, w64 (by omega) (by omega)]
  simp
theorem laws_tHas.ev (s : List Int) (n : Int) (hl : s.length ≤ 35184372088832) : Ev (fun k => laws_tHas.f k s n) (decide (n ∈ s)) := Ev.eq (laws_tHas.ev_l n s [] (by simpa using hl)) (by simp)
theorem laws_tRises.ev_l (s : List Int) : ∀ (p : List Int) (x : Int), p.length + s.length + 1 ≤ 35184372088832 → Ev (fun k => laws_tRises.l0 k (p ++ x :: s) ((p.length + 1 : Nat) : Int)) (risesB (x :: s)) := by
 induction s with
 | nil =>
  intro p x hp
  refine Ev.step (f := fun _ => some true) (fun k => ?_) (Ev.val rfl)
  rw [laws_tRises.l0, if_neg (by simp)]
 | cons y s ih =>
  intro p x hp
  simp only [List.length_cons] at hp
  have e1 : rd (p ++ x :: y :: s) (p.length : Int) = x := rd_app p x (y :: s)
  have e2 : rd (p ++ x :: y :: s) ((p.length + 1 : Nat) : Int) = y := by
   have := rd_app (p ++ [x]) y s
   simpa using this
  have hw : wrap64 (((p.length + 1 : Nat) : Int) - 1) = (p.length : Int) := by rw [w64 (by omega) (by omega)]; omega
  by_cases c : x ≥ y
  · refine Ev.step (f := fun _ => some false) (fun k => ?_) (Ev.val (by rw [risesB, decide_eq_false (by omega)]; rfl))
    rw [laws_tRises.l0, if_pos (by simp <;> omega), hw, if_pos (by omega), if_pos (by simp <;> omega), if_pos (by omega), e1, e2, if_pos c]
  have h := ih (p ++ [x]) y (by simp; omega)
  refine Ev.step (f := fun k => laws_tRises.l0 k ((p ++ [x]) ++ y :: s) (((p ++ [x]).length + 1 : Nat) : Int)) (fun k => ?_) (Ev.eq h (by rw [show risesB (x :: y :: s) = (decide (x < y) && risesB (y :: s)) from rfl, decide_eq_true (by omega)]; rfl))
  rw [laws_tRises.l0, if_pos (by simp <;> omega), hw, if_pos (by omega), if_pos (by simp <;> omega), if_pos (by omega), e1, e2, if_neg c, w64 (by omega) (by omega)]
  simp [Int.add_assoc]
theorem laws_tRises.ev (s : List Int) (hl : s.length ≤ 35184372088832) : Ev (fun k => laws_tRises.f k s) (risesB s) := by
 unfold laws_tRises.f
 cases s with
 | nil =>
  refine Ev.step (f := fun _ => some true) (fun k => ?_) (Ev.val rfl)
  rw [laws_tRises.l0, if_neg (by simp)]
 | cons x s => exact laws_tRises.ev_l s [] x (by simpa using hl)
theorem big_no {l0 l1 : List Int} (h : ¬ laws_big.f l0 l1 = some true) : l0.length ≤ 1048576 ∧ l1.length ≤ 1048576 ∧ laws_big.f l0 l1 = some false := by
 unfold laws_big.f at h ⊢
 by_cases c : (l0.length : Int) > 1048576
 · rw [if_pos c] at h; exact absurd rfl h
 rw [if_neg c] at h ⊢
 rw [w64 (by omega) (by omega)] at h ⊢
 by_cases d : (l1.length : Int) > 1048576 - (l0.length : Int)
 · rw [decide_eq_true d] at h; exact absurd rfl h
 exact ⟨by omega, by omega, by rw [decide_eq_false d]⟩
/-! ### Bytes cut at a byte; decimal numbers read -/
/-- A table of N truths. -/
def tabB (N : Nat) (f : Int → Bool) : List Bool := (List.range N).map fun (i : Nat) => f (i : Int)
theorem tabB_length (N : Nat) (f : Int → Bool) : (tabB N f).length = N := by simp [tabB]
theorem rd_tabB (N : Nat) (f : Int → Bool) (i : Int) (h0 : 0 ≤ i) (h1 : i < N) : rdOf false (tabB N f) i = f i := by
 obtain ⟨n, rfl⟩ := Int.eq_ofNat_of_zero_le h0
 have hn : n < N := by omega
 simp [rdOf, tabB, List.getD_eq_getElem?_getD, hn]
theorem tabB_congr (N : Nat) (f g : Int → Bool) (h : ∀ i : Int, 0 ≤ i → i < N → f i = g i) : tabB N f = tabB N g := by
 unfold tabB
 apply List.map_congr_left
 intro i hi
 exact h i (by omega) (by have := List.mem_range.1 hi; omega)
theorem tabB_set (N : Nat) (f : Int → Bool) (i : Int) (v : Bool) (h0 : 0 ≤ i) : (tabB N f).set i.toNat v = tabB N (fun j => if j = i then v else f j) := by
 obtain ⟨n, rfl⟩ := Int.eq_ofNat_of_zero_le h0
 apply List.ext_getElem?
 intro j
 unfold tabB
 by_cases hj : j < N
 · by_cases e : n = j
   · subst e; simp [hj]
   rw [List.getElem?_set_ne (by simpa using e)]
   simp [hj]
   omega
 rw [List.getElem?_eq_none (by simp; omega), List.getElem?_eq_none (by simp; omega)]
theorem tabB_rep (N : Nat) (b : Bool) : List.replicate N b = tabB N (fun _ => b) := by
 apply List.ext_getElem
 · simp [tabB]
 intro i h1 h2; simp [tabB]
def coinsB (l : List Int) : Bool := inB (l.length : Int) 1 8 && ((l.all fun x => inB x 1 1000) && risesB l)
theorem coins_facts {l : List Int} (h : coinsB l = true) : 1 ≤ l.length ∧ l.length ≤ 8 ∧ (∀ x ∈ l, 1 ≤ x ∧ x ≤ 1000) ∧ risesB l = true := by
 unfold coinsB inB at h
 simp only [Bool.and_eq_true, decide_eq_true_eq, List.all_eq_true] at h
 exact ⟨by omega, by omega, h.2.1, h.2.2⟩
theorem impl_AreCoins.ev (l : List Int) (hl : l.length ≤ 9223372036854775806) : Ev (fun k => impl_AreCoins.f k l) (coinsB l) := by
 unfold impl_AreCoins.f
 refine Ev.bindc (impl_within.valB _ 1 8) ?_
 unfold coinsB
 cases c : inB (l.length : Int) 1 8 with
 | false => exact Ev.neg (by decide) (Ev.val rfl)
 | true =>
  refine Ev.pos rfl (Ev.bindc (impl_areWithin.val l 1 1000) ?_)
  have e : (l.all fun x => decide (1 ≤ x) && decide (x ≤ 1000)) = l.all fun x => inB x 1 1000 := rfl
  rw [e]
  cases d : (l.all fun x => inB x 1 1000) with
  | false => exact Ev.neg (by decide) (Ev.val rfl)
  | true => exact Ev.pos rfl (Ev.bind (impl_rises.ev l hl) (Ev.val rfl))
theorem spec_cnGood.ev (l : List Int) (hl : l.length ≤ 9223372036854775806) : Ev (fun k => spec_cnGood.f k l) (coinsB l) := by
 unfold spec_cnGood.f
 refine Ev.bindc (spec_l1In.valB _ 1 8) ?_
 unfold coinsB
 cases c : inB (l.length : Int) 1 8 with
 | false => exact Ev.neg (by decide) (Ev.val rfl)
 | true => exact Ev.pos rfl (Ev.bind (spec_l1Rising.ev l 1 1000 hl) (Ev.val rfl))
theorem impl_isAmount.ev (l : List Int) (s : Int) (hl : l.length ≤ 9223372036854775806) : Ev (fun k => impl_isAmount.f k l s) (coinsB l && inB s 0 20000) := by
 unfold impl_isAmount.f
 refine Ev.bind (impl_AreCoins.ev l hl) ?_
 cases c : coinsB l with
 | false => exact Ev.neg (by decide) (Ev.val rfl)
 | true => exact Ev.pos rfl (Ev.bindc (impl_within.valB s 0 20000) (Ev.val rfl))
theorem spec_cnAsked.ev (l : List Int) (s : Int) (hl : l.length ≤ 9223372036854775806) : Ev (fun k => spec_cnAsked.f k l s) (coinsB l && inB s 0 20000) := by
 unfold spec_cnAsked.f
 refine Ev.bind (spec_cnGood.ev l hl) ?_
 cases c : coinsB l with
 | false => exact Ev.neg (by decide) (Ev.val rfl)
 | true => exact Ev.pos rfl (Ev.bindc (spec_l1In.valB s 0 20000) (Ev.val rfl))
def purseB (l m : List Int) (s : Int) : Bool := (coinsB l && inB s 0 20000) && (decide (m.length = l.length) && m.all fun x => inB x 0 1000)
theorem purse_facts {l m : List Int} {s : Int} (h : purseB l m s = true) : coinsB l = true ∧ 0 ≤ s ∧ s ≤ 20000 ∧ m.length = l.length ∧ ∀ x ∈ m, 0 ≤ x ∧ x ≤ 1000 := by
 unfold purseB inB at h
 simp only [Bool.and_eq_true, decide_eq_true_eq, List.all_eq_true] at h
 exact ⟨h.1.1, h.1.2.1, h.1.2.2, h.2.1, h.2.2⟩
theorem impl_isPurse.ev (l m : List Int) (s : Int) (hl : l.length ≤ 9223372036854775806) : Ev (fun k => impl_isPurse.f k l m s) (purseB l m s) := by
 unfold impl_isPurse.f
 refine Ev.bind (impl_isAmount.ev l s hl) ?_
 unfold purseB
 cases c : (coinsB l && inB s 0 20000) with
 | false => exact Ev.neg (by decide) (Ev.val rfl)
 | true =>
  refine Ev.pos rfl (Ev.ite (fun d => ?_) (fun d => Ev.val ?_))
  · refine Ev.bindc (impl_areWithin.val m 0 1000) (Ev.val ?_)
    rw [decide_eq_true (by omega)]; rfl
  rw [decide_eq_false (by omega)]; rfl
theorem spec_cnPurse.ev (l m : List Int) (s : Int) (hl : l.length ≤ 9223372036854775806) : Ev (fun k => spec_cnPurse.f k l m s) (purseB l m s) := by
 unfold spec_cnPurse.f
 refine Ev.bind (spec_cnAsked.ev l s hl) ?_
 unfold purseB
 cases c : (coinsB l && inB s 0 20000) with
 | false => exact Ev.neg (by decide) (Ev.val rfl)
 | true =>
  refine Ev.pos rfl (Ev.ite (fun d => ?_) (fun d => Ev.val ?_))
  · have hc : coinsB l = true := by simp only [Bool.and_eq_true] at c; exact c.1
    have := (coins_facts hc).2.1
    refine Ev.bind (spec_l1All.ev m 0 1000 (by omega)) (Ev.val ?_)
    rw [decide_eq_true (by omega)]; rfl
  rw [decide_eq_false (by omega)]; rfl
/-! ### The least number with a property -/
theorem least_ex (P : Nat → Prop) : ∀ n, P n → ∃ j, P j ∧ ∀ i, i < j → ¬ P i := by
 intro n
 induction n using Nat.strongRecOn with
 | ind n ih =>
  intro h
  by_cases c : ∃ i, i < n ∧ P i
  · obtain ⟨i, h1, h2⟩ := c; exact ih i h1 h2
  exact ⟨n, h, fun i hi hp => c ⟨i, hi, hp⟩⟩
open Classical in
/-- The least number with a property, or z. -/
noncomputable def lst (P : Nat → Prop) (z : Int) : Int := if h : ∃ j, P j ∧ ∀ i, i < j → ¬ P i then ((Classical.choose h : Nat) : Int) else z
theorem lst_some {P : Nat → Prop} {z : Int} {j : Nat} (h : P j) (h' : ∀ i, i < j → ¬ P i) : lst P z = j := by
 have hex : ∃ j, P j ∧ ∀ i, i < j → ¬ P i := ⟨j, h, h'⟩
 unfold lst
 rw [dif_pos hex]
 have hs := Classical.choose_spec hex
 generalize Classical.choose hex = q at hs
 rcases Nat.lt_trichotomy q j with c | c | c
 · exact absurd hs.1 (h' q c)
 · rw [c]
 exact absurd h (hs.2 j c)
theorem lst_none {P : Nat → Prop} {z : Int} (h : ∀ j, ¬ P j) : lst P z = z := by
 unfold lst
 rw [dif_neg (fun ⟨j, hj, _⟩ => h j hj)]
theorem lst_cases (P : Nat → Prop) (z : Int) : (∃ j : Nat, P j ∧ (∀ i, i < j → ¬ P i) ∧ lst P z = j) ∨ ((∀ j, ¬ P j) ∧ lst P z = z) := by
 by_cases c : ∃ j, P j
 · obtain ⟨n, hn⟩ := c
   obtain ⟨j, h1, h2⟩ := least_ex P n hn
   exact .inl ⟨j, h1, h2, lst_some h1 h2⟩
 exact .inr ⟨fun j h => c ⟨j, h⟩, lst_none (fun j h => c ⟨j, h⟩)⟩
theorem lst_congr {P Q : Nat → Prop} {z : Int} (h : ∀ j, P j ↔ Q j) : lst P z = lst Q z := by rw [show P = Q from funext fun j => propext (h j)]
/-- 'a' is the sum of n of the coins. -/
def PayN (l : List Int) : Nat → Int → Prop
 | 0, a => a = 0
 | n + 1, a => ∃ c ∈ l, PayN l n (a - c)
theorem payN_ge {l : List Int} (h1 : ∀ x ∈ l, 1 ≤ x) : ∀ (n : Nat) (a : Int), PayN l n a → (n : Int) ≤ a
 | 0, a, h => by rw [show a = 0 from h]; omega
 | n + 1, a, ⟨c, hc, h⟩ => by have := payN_ge h1 n _ h; have := h1 c hc; omega
/-- The same by a coin of some of them last. -/
def PayV (l q : List Int) (v : Int) (n : Nat) : Prop := ∃ c ∈ q, ∃ n', n = n' + 1 ∧ PayN l n' (v - c)
theorem payV_all {l : List Int} {v : Int} (hv : v ≠ 0) (n : Nat) : PayV l l v n ↔ PayN l n v := by
 constructor
 · rintro ⟨c, hc, n', rfl, h⟩; exact ⟨c, hc, h⟩
 intro h
 cases n with
 | zero => exact absurd h hv
 | succ n => obtain ⟨c, hc, h⟩ := h; exact ⟨c, hc, n, rfl, h⟩
theorem payV_snoc {l q : List Int} {c v : Int} (n : Nat) : PayV l (q ++ [c]) v n ↔ PayV l q v n ∨ ∃ n', n = n' + 1 ∧ PayN l n' (v - c) := by
 constructor
 · rintro ⟨d, hd, h⟩
   rcases List.mem_append.1 hd with e | e
   · exact .inl ⟨d, e, h⟩
   rw [List.mem_singleton.1 e] at h; exact .inr h
 rintro (⟨d, hd, h⟩ | h)
 · exact ⟨d, by simp [hd], h⟩
 exact ⟨c, by simp, h⟩
/-- The least number of coins, or z. -/
noncomputable def fewF (l : List Int) (z a : Int) : Int := lst (fun n => PayN l n a) z
noncomputable def fewV (l q : List Int) (z v : Int) : Int := lst (PayV l q v) z
theorem fewV_all {l : List Int} {z v : Int} (hv : v ≠ 0) : fewV l l z v = fewF l z v := lst_congr (payV_all hv)
theorem fewV_nil (l : List Int) (z v : Int) : fewV l [] z v = z := lst_none (fun j ⟨c, hc, _⟩ => by cases hc)
theorem fewF_zero (l : List Int) (z : Int) : fewF l z 0 = 0 := lst_some (j := 0) rfl (fun i hi => absurd hi (by omega))
/-- What a further coin does to the least number. -/
theorem fewV_snoc (l q : List Int) (z v c : Int) : ((fewV l (q ++ [c]) z v = z ∧ fewV l q z v = z ∧ fewF l z (v - c) = z ∧ (∀ n, ¬ PayV l q v n) ∧ (∀ n, ¬ PayN l n (v - c))) ∨ (∃ p : Nat, fewV l (q ++ [c]) z v = p ∧ fewV l q z v = p ∧ fewF l z (v - c) = z ∧ PayV l q v p ∧ (∀ n, ¬ PayN l n (v - c))) ∨ (∃ r : Nat, fewV l (q ++ [c]) z v = (r : Int) + 1 ∧ fewV l q z v = z ∧ fewF l z (v - c) = r ∧ (∀ n, ¬ PayV l q v n) ∧ PayN l r (v - c)) ∨ (∃ p r : Nat, fewV l (q ++ [c]) z v = (if (r : Int) + 1 < p then (r : Int) + 1 else p) ∧ fewV l q z v = p ∧ fewF l z (v - c) = r ∧ PayV l q v p ∧ PayN l r (v - c))) := by
 have e : fewV l (q ++ [c]) z v = lst (fun n => PayV l q v n ∨ ∃ n', n = n' + 1 ∧ PayN l n' (v - c)) z := lst_congr payV_snoc
 rcases lst_cases (PayV l q v) z with ⟨p, hp, hp', hpe⟩ | ⟨hp, hpe⟩ <;> rcases lst_cases (fun n => PayN l n (v - c)) z with ⟨r, hr, hr', hre⟩ | ⟨hr, hre⟩
 · refine .inr (.inr (.inr ⟨p, r, ?_, hpe, hre, hp, hr⟩))
   rw [e]
   by_cases d : r + 1 < p
   · rw [if_pos (by omega), lst_some (j := r + 1) (.inr ⟨r, rfl, hr⟩) (fun i hi h => ?_)]
     · omega
     rcases h with h | ⟨n', rfl, h⟩
     · exact hp' i (by omega) h
     exact hr' n' (by omega) h
   rw [if_neg (by omega), lst_some (j := p) (.inl hp) (fun i hi h => ?_)]
   rcases h with h | ⟨n', rfl, h⟩
   · exact hp' i hi h
   exact hr' n' (by omega) h
 · refine .inr (.inl ⟨p, ?_, hpe, hre, hp, hr⟩)
   rw [e, lst_some (j := p) (.inl hp) (fun i hi h => ?_)]
   rcases h with h | ⟨n', rfl, h⟩
   · exact hp' i hi h
   exact hr n' h
 · refine .inr (.inr (.inl ⟨r, ?_, hpe, hre, hp, hr⟩))
   rw [e, lst_some (j := r + 1) (.inr ⟨r, rfl, hr⟩) (fun i hi h => ?_)]
   · omega
   rcases h with h | ⟨n', rfl, h⟩
   · exact hp i h
   exact hr' n' (by omega) h
 refine .inl ⟨?_, hpe, hre, hp, hr⟩
 rw [e, lst_none (fun j h => ?_)]
 rcases h with h | ⟨n', rfl, h⟩
 · exact hp j h
 exact hr n' h
theorem payV_le {l q : List Int} (h1 : ∀ x ∈ l, 1 ≤ x) (hq : ∀ x ∈ q, x ∈ l) {v : Int} {n : Nat} (h : PayV l q v n) : (n : Int) ≤ v := by
 obtain ⟨c, hc, n', rfl, h⟩ := h
 have := payN_ge h1 n' _ h; have := h1 c (hq c hc); omega
/-- The table ahead of a value. -/
noncomputable def fewT (l : List Int) (z v x a : Int) : Int := if a < v then fewF l z a else if a = v then x else 0
theorem impl_fewStamps.ev_1 {R : List Int} (l : List Int) (hl : l.length ≤ 1000) (h1 : ∀ x ∈ l, 1 ≤ x ∧ x ≤ 1000000) (m : Int) (hm : 0 ≤ m ∧ m ≤ 10000000) (v : Int) (hv : 1 ≤ v) (hvm : v ≤ m) (next : Ev (fun k => impl_fewStamps.l0 k l m (tab (m + 1).toNat (fewT l (m + 1) v (fewF l (m + 1) v))) (v + 1)) R) : ∀ (s q : List Int), q ++ s = l → Ev (fun k => impl_fewStamps.l1 k l m (tab (m + 1).toNat (fewT l (m + 1) v (fewV l q (m + 1) v))) v l (l.length : Int) (q.length : Int)) R
 | [], q, e => by
  rw [List.append_nil] at e
  subst e
  refine Ev.step (fun k => ?_) next
  rw [impl_fewStamps.l1, if_neg (by omega), w64 (n := v + 1) (by omega) (by omega), fewV_all (by omega)]
 | c :: s, q, e => by
  have hll : l.length = q.length + (s.length + 1) := by rw [← e]; simp
  have hc := h1 c (by rw [← e]; simp)
  have hl1 : ∀ x ∈ l, 1 ≤ x := fun x hx => (h1 x hx).1
  have hq : ∀ x ∈ q, x ∈ l := fun x hx => by rw [← e]; simp [hx]
  have ew : wrap64 ((q.length : Int) + 1) = ((q ++ [c]).length : Int) := by rw [w64 (by omega) (by omega)]; simp
  have erd : rd l (q.length : Int) = c := by rw [← e]; exact rd_app q c s
  have ih := impl_fewStamps.ev_1 l hl h1 m hm v hv hvm next s (q ++ [c]) (by rw [← e]; simp)
  have hN : ((m + 1).toNat : Int) = m + 1 := by omega
  by_cases d : c ≤ v
  · refine Ev.step (fun k => ?_) ih
    have e1 : rd (tab (m + 1).toNat (fewT l (m + 1) v (fewV l q (m + 1) v))) v = fewV l q (m + 1) v := by
     rw [rd_tab _ _ _ (by omega) (by omega)]; unfold fewT; rw [if_neg (by omega), if_pos rfl]
    have e2 : rd (tab (m + 1).toNat (fewT l (m + 1) v (fewV l q (m + 1) v))) (v - c) = fewF l (m + 1) (v - c) := by
     rw [rd_tab _ _ _ (by omega) (by omega)]; unfold fewT; rw [if_pos (by omega)]
    have key : mn (fewV l q (m + 1) v) (wrap64 (fewF l (m + 1) (v - c) + 1)) = fewV l (q ++ [c]) (m + 1) v := by
     rcases fewV_snoc l q (m + 1) v c with ⟨a1, a2, a3, _, _⟩ | ⟨p, a1, a2, a3, a4, _⟩ | ⟨r, a1, a2, a3, _, a5⟩ | ⟨p, r, a1, a2, a3, a4, a5⟩
     · rw [a1, a2, a3, w64 (by omega) (by omega)]; unfold mn; rw [if_neg (by omega)]
     · have := payV_le hl1 hq a4
       rw [a1, a2, a3, w64 (by omega) (by omega)]; unfold mn; rw [if_neg (by omega)]
     · have := payN_ge hl1 r _ a5
       rw [a1, a2, a3, w64 (by omega) (by omega)]; unfold mn; rw [if_pos (by omega)]
     have := payN_ge hl1 r _ a5
     have := payV_le hl1 hq a4
     rw [a1, a2, a3, w64 (by omega) (by omega)]; rfl
    rw [impl_fewStamps.l1, if_pos (by omega), if_pos (by omega), if_pos (by omega), erd, if_pos d, if_pos (by omega), if_pos (by rw [tab_length]; omega), w64 (n := v - c) (by omega) (by omega), if_pos (by omega), if_pos (by rw [tab_length]; omega), e1, e2, key, ew, tab_set _ _ _ _ (by omega)]
    congr 1
    refine tab_congr _ _ _ (fun a _ _ => ?_)
    unfold fewT
    by_cases q1 : a = v
    · subst q1; rw [if_pos rfl, if_neg (by omega), if_pos rfl]
    rw [if_neg q1]
    by_cases q2 : a < v
    · rw [if_pos q2, if_pos q2]
    rw [if_neg q2, if_neg q2, if_neg q1, if_neg q1]
  refine Ev.step (fun k => ?_) ih
  have hno : ∀ n, ¬ PayN l n (v - c) := fun n h => by have := payN_ge hl1 n _ h; omega
  have e3 : fewV l (q ++ [c]) (m + 1) v = fewV l q (m + 1) v := lst_congr (fun n => by
   rw [payV_snoc]
   constructor
   · rintro (h | ⟨n', _, h⟩)
     · exact h
     exact absurd h (hno n')
   exact .inl)
  rw [impl_fewStamps.l1, if_pos (by omega), if_pos (by omega), if_pos (by omega), erd, if_neg d, ew, e3]
theorem impl_fewStamps.ev_0 (l : List Int) (hl : l.length ≤ 1000) (h1 : ∀ x ∈ l, 1 ≤ x ∧ x ≤ 1000000) (m : Int) (hm : 0 ≤ m ∧ m ≤ 10000000) : ∀ (d : Nat) (v : Int), 1 ≤ v → v + d = m + 1 → Ev (fun k => impl_fewStamps.l0 k l m (tab (m + 1).toNat (fewT l (m + 1) v 0)) v) (tab (m + 1).toNat (fewF l (m + 1)))
 | 0, v, hv, e => by
  refine Ev.step (f := fun _ => some (tab (m + 1).toNat (fewT l (m + 1) v 0))) (fun k => by rw [impl_fewStamps.l0, if_neg (by omega)]) (Ev.val ?_)
  refine tab_congr _ _ _ (fun a _ _ => ?_)
  unfold fewT; rw [if_pos (by omega)]
 | d + 1, v, hv, e => by
  have ih := impl_fewStamps.ev_0 l hl h1 m hm d (v + 1) (by omega) (by omega)
  have en : tab (m + 1).toNat (fewT l (m + 1) v (fewF l (m + 1) v)) = tab (m + 1).toNat (fewT l (m + 1) (v + 1) 0) := by
   refine tab_congr _ _ _ (fun a _ _ => ?_)
   unfold fewT
   by_cases q : a = v
   · subst q; rw [if_neg (by omega), if_pos rfl, if_pos (by omega)]
   by_cases q2 : a < v
   · rw [if_pos q2, if_pos (by omega)]
   rw [if_neg q2, if_neg q, if_neg (by omega)]
   split <;> rfl
  rw [← en] at ih
  have h := impl_fewStamps.ev_1 l hl h1 m hm v hv (by omega) ih l [] rfl
  refine Ev.step (fun k => ?_) h
  rw [impl_fewStamps.l0, if_pos (by omega), if_pos (by omega), if_pos (by rw [tab_length]; omega), w64 (n := m + 1) (by omega) (by omega), tab_set _ _ _ _ (by omega), fewV_nil]
  congr 1
  refine tab_congr _ _ _ (fun a _ _ => ?_)
  unfold fewT
  by_cases q : a = v
  · subst q; rw [if_pos rfl, if_neg (by omega), if_pos rfl]
  rw [if_neg q]
  by_cases q2 : a < v
  · rw [if_pos q2, if_pos q2]
  rw [if_neg q2, if_neg q2, if_neg q, if_neg q]
theorem impl_fewStamps.ev (l : List Int) (hl : l.length ≤ 1000) (h1 : ∀ x ∈ l, 1 ≤ x ∧ x ≤ 1000000) (m : Int) (hm : 0 ≤ m ∧ m ≤ 10000000) : Ev (fun k => impl_fewStamps.f k l m) (tab (m + 1).toNat (fewF l (m + 1))) := by
 unfold impl_fewStamps.f
 rw [w64 (n := m + 1) (by omega) (by omega)]
 refine Ev.pos (by omega) (Ev.pos (by omega) ?_)
 have h := impl_fewStamps.ev_0 l hl h1 m hm m.toNat 1 (by omega) (by omega)
 refine Ev.congr (fun k => ?_) h
 congr 1
 apply List.ext_getElem
 · simp [tab]
 intro i h2 h3
 simp only [tab, List.getElem_replicate, List.getElem_map, List.getElem_range]
 unfold fewT
 by_cases q : (i : Int) < 1
 · rw [if_pos q, show (i : Int) = 0 by omega, fewF_zero]
 rw [if_neg q]; split <;> rfl
theorem spec_cnFew.ev_1 {R : List Int} (l : List Int) (hl : l.length ≤ 1000) (h1 : ∀ x ∈ l, 1 ≤ x ∧ x ≤ 1000000) (m : Int) (hm : 0 ≤ m ∧ m ≤ 10000000) (v : Int) (hv : 1 ≤ v) (hvm : v ≤ m) (next : Ev (fun k => spec_cnFew.l0 k l m (tab (m + 1).toNat (fewT l (-1) v (fewF l (-1) v))) (v + 1)) R) : ∀ (s q : List Int), q ++ s = l → Ev (fun k => spec_cnFew.l1 k l m (tab (m + 1).toNat (fewT l (-1) v (fewV l q (-1) v))) v l (l.length : Int) (q.length : Int)) R
 | [], q, e => by
  rw [List.append_nil] at e
  subst e
  refine Ev.step (fun k => ?_) next
  rw [spec_cnFew.l1, if_neg (by omega), w64 (n := v + 1) (by omega) (by omega), fewV_all (by omega)]
 | c :: s, q, e => by
  have hll : l.length = q.length + (s.length + 1) := by rw [← e]; simp
  have hc := h1 c (by rw [← e]; simp)
  have hl1 : ∀ x ∈ l, 1 ≤ x := fun x hx => (h1 x hx).1
  have hq : ∀ x ∈ q, x ∈ l := fun x hx => by rw [← e]; simp [hx]
  have ew : wrap64 ((q.length : Int) + 1) = ((q ++ [c]).length : Int) := by rw [w64 (by omega) (by omega)]; simp
  have erd : rd l (q.length : Int) = c := by rw [← e]; exact rd_app q c s
  have ih := spec_cnFew.ev_1 l hl h1 m hm v hv hvm next s (q ++ [c]) (by rw [← e]; simp)
  have hN : ((m + 1).toNat : Int) = m + 1 := by omega
  have put : ∀ x, x = fewV l (q ++ [c]) (-1) v → (tab (m + 1).toNat (fewT l (-1) v (fewV l q (-1) v))).set v.toNat x = tab (m + 1).toNat (fewT l (-1) v (fewV l (q ++ [c]) (-1) v)) := by
   intro x hx
   rw [tab_set _ _ _ _ (by omega)]
   refine tab_congr _ _ _ (fun a _ _ => ?_)
   unfold fewT
   by_cases q1 : a = v
   · subst q1; rw [if_pos rfl, if_neg (by omega), if_pos rfl, hx]
   rw [if_neg q1]
   by_cases q2 : a < v
   · rw [if_pos q2, if_pos q2]
   rw [if_neg q2, if_neg q2, if_neg q1, if_neg q1]
  by_cases d : c ≤ v
  · have e1 : rd (tab (m + 1).toNat (fewT l (-1) v (fewV l q (-1) v))) v = fewV l q (-1) v := by
     rw [rd_tab _ _ _ (by omega) (by omega)]; unfold fewT; rw [if_neg (by omega), if_pos rfl]
    have e2 : rd (tab (m + 1).toNat (fewT l (-1) v (fewV l q (-1) v))) (v - c) = fewF l (-1) (v - c) := by
     rw [rd_tab _ _ _ (by omega) (by omega)]; unfold fewT; rw [if_pos (by omega)]
    have hL : ((tab (m + 1).toNat (fewT l (-1) v (fewV l q (-1) v))).length : Int) = m + 1 := by rw [tab_length]; omega
    refine Ev.step (fun k => ?_) ih
    rw [spec_cnFew.l1, if_pos (by omega), if_pos (by omega), if_pos (by omega), erd, if_pos d, w64 (n := v - c) (by omega) (by omega), if_pos (by omega), if_pos (by omega), e1, e2]
    rcases fewV_snoc l q (-1) v c with ⟨a1, a2, a3, _, _⟩ | ⟨p, a1, a2, a3, a4, _⟩ | ⟨r, a1, a2, a3, _, a5⟩ | ⟨p, r, a1, a2, a3, a4, a5⟩
    · rw [a3, if_neg (by omega), ew, a1, a2]
    · rw [a3, if_neg (by omega), ew, a1, a2]
    · have := payN_ge hl1 r _ a5
      rw [a3, if_pos (by omega), if_pos (by omega), if_pos (by omega), if_pos (show fewV l q (-1) v < 0 by omega), w64 (n := (r : Int) + 1) (by omega) (by omega), ew, put _ a1.symm]
    have := payN_ge hl1 r _ a5
    have := payV_le hl1 hq a4
    rw [a3, if_pos (by omega), if_pos (by omega), if_pos (by omega), w64 (n := (r : Int) + 1) (by omega) (by omega), ew]
    by_cases z : (r : Int) + 1 < p
    · rw [if_pos z] at a1
      rw [if_neg (show ¬ fewV l q (-1) v < 0 by omega), if_pos (show (r : Int) + 1 < fewV l q (-1) v by omega), put _ a1.symm]
    rw [if_neg z] at a1
    rw [if_neg (show ¬ fewV l q (-1) v < 0 by omega), if_neg (show ¬ (r : Int) + 1 < fewV l q (-1) v by omega), a1, a2]
  refine Ev.step (fun k => ?_) ih
  have hno : ∀ n, ¬ PayN l n (v - c) := fun n h => by have := payN_ge hl1 n _ h; omega
  have e3 : fewV l (q ++ [c]) (-1) v = fewV l q (-1) v := lst_congr (fun n => by
   rw [payV_snoc]
   constructor
   · rintro (h | ⟨n', _, h⟩)
     · exact h
     exact absurd h (hno n')
   exact .inl)
  rw [spec_cnFew.l1, if_pos (by omega), if_pos (by omega), if_pos (by omega), erd, if_neg d, ew, e3]
theorem spec_cnFew.ev_0 (l : List Int) (hl : l.length ≤ 1000) (h1 : ∀ x ∈ l, 1 ≤ x ∧ x ≤ 1000000) (m : Int) (hm : 0 ≤ m ∧ m ≤ 10000000) : ∀ (d : Nat) (v : Int), 1 ≤ v → v + d = m + 1 → Ev (fun k => spec_cnFew.l0 k l m (tab (m + 1).toNat (fewT l (-1) v 0)) v) (tab (m + 1).toNat (fewF l (-1)))
 | 0, v, hv, e => by
  refine Ev.step (f := fun _ => some (tab (m + 1).toNat (fewT l (-1) v 0))) (fun k => by rw [spec_cnFew.l0, if_neg (by omega)]) (Ev.val ?_)
  refine tab_congr _ _ _ (fun a _ _ => ?_)
  unfold fewT; rw [if_pos (by omega)]
 | d + 1, v, hv, e => by
  have ih := spec_cnFew.ev_0 l hl h1 m hm d (v + 1) (by omega) (by omega)
  have en : tab (m + 1).toNat (fewT l (-1) v (fewF l (-1) v)) = tab (m + 1).toNat (fewT l (-1) (v + 1) 0) := by
   refine tab_congr _ _ _ (fun a _ _ => ?_)
   unfold fewT
   by_cases q : a = v
   · subst q; rw [if_neg (by omega), if_pos rfl, if_pos (by omega)]
   by_cases q2 : a < v
   · rw [if_pos q2, if_pos (by omega)]
   rw [if_neg q2, if_neg q, if_neg (by omega)]
   split <;> rfl
  rw [← en] at ih
  have h := spec_cnFew.ev_1 l hl h1 m hm v hv (by omega) ih l [] rfl
  refine Ev.step (fun k => ?_) h
  rw [spec_cnFew.l0, if_pos (by omega), if_pos (by omega), if_pos (by rw [tab_length]; omega), tab_set _ _ _ _ (by omega), fewV_nil]
  congr 1
  refine tab_congr _ _ _ (fun a _ _ => ?_)
  unfold fewT
  by_cases q : a = v
  · subst q; rw [if_pos rfl, if_neg (by omega), if_pos rfl]
  rw [if_neg q]
  by_cases q2 : a < v
  · rw [if_pos q2, if_pos q2]
  rw [if_neg q2, if_neg q2, if_neg q, if_neg q]
theorem spec_cnFew.ev (l : List Int) (hl : l.length ≤ 1000) (h1 : ∀ x ∈ l, 1 ≤ x ∧ x ≤ 1000000) (m : Int) (hm : 0 ≤ m ∧ m ≤ 10000000) : Ev (fun k => spec_cnFew.f k l m) (tab (m + 1).toNat (fewF l (-1))) := by
 unfold spec_cnFew.f
 rw [w64 (n := m + 1) (by omega) (by omega)]
 refine Ev.pos (by omega) (Ev.pos (by omega) ?_)
 have h := spec_cnFew.ev_0 l hl h1 m hm m.toNat 1 (by omega) (by omega)
 refine Ev.congr (fun k => ?_) h
 congr 1
 apply List.ext_getElem
 · simp [tab]
 intro i h2 h3
 simp only [tab, List.getElem_replicate, List.getElem_map, List.getElem_range]
 unfold fewT
 by_cases q : (i : Int) < 1
 · rw [if_pos q, show (i : Int) = 0 by omega, fewF_zero]
 rw [if_neg q]; split <;> rfl
theorem fewF_nil (z a : Int) (ha : a ≠ 0) : fewF [] z a = z := lst_none (fun j h => by
 cases j with
 | zero => exact ha h
 | succ j => obtain ⟨c, hc, _⟩ := h; cases hc)
theorem spec_cnFewer.ev_0 (m : Int) (hm : 0 ≤ m ∧ m ≤ 10000000) : ∀ (d : Nat) (v : Int), 1 ≤ v → v + d = m + 1 → Ev (fun k => spec_cnFewer.l0 k m (tab (m + 1).toNat fun a => if 1 ≤ a ∧ a < v then -1 else 0) v) (tab (m + 1).toNat (fewF [] (-1)))
 | 0, v, hv, e => by
  refine Ev.step (f := fun _ => some (tab (m + 1).toNat fun a => if 1 ≤ a ∧ a < v then -1 else 0)) (fun k => by rw [spec_cnFewer.l0, if_neg (by omega)]) (Ev.val ?_)
  refine tab_congr _ _ _ (fun a h0 h1 => ?_)
  by_cases q : a = 0
  · subst q; rw [if_neg (by omega), fewF_zero]
  rw [if_pos (by omega), fewF_nil _ _ q]
 | d + 1, v, hv, e => by
  have ih := spec_cnFewer.ev_0 m hm d (v + 1) (by omega) (by omega)
  refine Ev.step (fun k => ?_) ih
  rw [spec_cnFewer.l0, if_pos (by omega), if_pos (by omega), if_pos (by rw [tab_length]; omega), tab_set _ _ _ _ (by omega), w64 (n := v + 1) (by omega) (by omega)]
  congr 1
  refine tab_congr _ _ _ (fun a _ _ => ?_)
  by_cases q : a = v
  · rw [if_pos q, if_pos (by omega)]
  rw [if_neg q]
  by_cases q2 : 1 ≤ a ∧ a < v
  · rw [if_pos q2, if_pos (by omega)]
  rw [if_neg q2, if_neg (by omega)]
theorem spec_cnFewer.ev (l : List Int) (hl : l.length ≤ 1000) (h1 : ∀ x ∈ l, 1 ≤ x ∧ x ≤ 1000000) (m : Int) (hm : 0 ≤ m ∧ m ≤ 10000000) : Ev (fun k => spec_cnFewer.f k l m) (tab (m + 1).toNat (fewF l (-1))) := by
 unfold spec_cnFewer.f
 refine Ev.ite (fun c => Ev.bind (spec_cnFew.ev l hl h1 m hm) (Ev.val rfl)) (fun c => ?_)
 obtain rfl : l = [] := List.eq_nil_of_length_eq_zero (by omega)
 rw [w64 (n := m + 1) (by omega) (by omega)]
 refine Ev.pos (by omega) (Ev.pos (by omega) ?_)
 have h := spec_cnFewer.ev_0 m hm m.toNat 1 (by omega) (by omega)
 refine Ev.congr (fun k => ?_) h
 congr 1
 apply List.ext_getElem
 · simp [tab]
 intro i h2 h3
 simp only [tab, List.getElem_replicate, List.getElem_map, List.getElem_range]
 rw [if_neg (by omega)]
/-- The least number of coins for an amount, if there is change. -/
noncomputable def fewC (l : List Int) (a : Int) : Int × Bool := if (coinsB l && inB a 0 20000) = true ∧ 0 ≤ fewF l (-1) a then (fewF l (-1) a, true) else (0, false)
theorem fewF_cases {l : List Int} (h1 : ∀ x ∈ l, 1 ≤ x) (a : Int) : (∃ p : Nat, PayN l p a ∧ (∀ i, i < p → ¬ PayN l i a) ∧ (p : Int) ≤ a ∧ ∀ z, fewF l z a = p) ∨ ((∀ n, ¬ PayN l n a) ∧ ∀ z, fewF l z a = z) := by
 rcases lst_cases (fun n => PayN l n a) 0 with ⟨p, h, h', _⟩ | ⟨h, _⟩
 · exact .inl ⟨p, h, h', payN_ge h1 p a h, fun z => lst_some h h'⟩
 exact .inr ⟨h, fun z => lst_none h⟩
theorem impl_FewestCoins.ev (l : List Int) (a : Int) (hl : l.length ≤ 9223372036854775806) : Ev (fun k => impl_FewestCoins.f k l a) (fewC l a) := by
 unfold impl_FewestCoins.f
 refine Ev.bind (impl_isAmount.ev l a hl) (Ev.ite (fun c => ?_) (fun c => Ev.val (by rw [fewC, if_neg (fun h => c h.1)])))
 have hc : coinsB l = true ∧ 0 ≤ a ∧ a ≤ 20000 := by
  unfold inB at c
  simp only [Bool.and_eq_true, decide_eq_true_eq] at c
  exact ⟨c.1, c.2.1, c.2.2⟩
 obtain ⟨g, h0, h2⟩ := hc
 have hf := coins_facts g
 have h1 : ∀ x ∈ l, 1 ≤ x := fun x hx => (hf.2.2.1 x hx).1
 refine Ev.bind (impl_fewStamps.ev l (by omega) (fun x hx => by have := hf.2.2.1 x hx; omega) a (by omega)) (Ev.pos h0 (Ev.pos (by rw [tab_length]; omega) ?_))
 rw [rd_tab _ _ _ h0 (by omega), fewC]
 rcases fewF_cases h1 a with ⟨p, _, _, hp, e⟩ | ⟨_, e⟩
 · rw [e, e]
   exact Ev.neg (by omega) (Ev.val (by rw [if_pos ⟨c, by omega⟩]))
 rw [e, e]
 exact Ev.pos (by omega) (Ev.val (by rw [if_neg (fun h => by omega)]))
/-! ### Change from a purse -/
/-- Whether some of the coins, of each kind at most so many, are together an amount. -/
def Can : List (Int × Int) → Int → Prop
 | [], a => a = 0
 | (c, m) :: t, a => ∃ j : Nat, (j : Int) ≤ m ∧ Can t (a - j * c)
theorem can_ge {l : List (Int × Int)} (h1 : ∀ x ∈ l, 1 ≤ x.1) {a : Int} (h : Can l a) : 0 ≤ a := by
 induction l generalizing a with
 | nil => rw [show a = 0 from h]; omega
 | cons x t ih =>
  obtain ⟨c, m⟩ := x
  obtain ⟨j, _, h⟩ := h
  have := ih (fun y hy => h1 y (by simp [hy])) h
  have hc := h1 (c, m) (by simp)
  have : 0 ≤ (j : Int) * c := Int.mul_nonneg (by omega) (by simp only at hc; omega)
  omega
theorem can_snoc {l : List (Int × Int)} {c m a : Int} : Can (l ++ [(c, m)]) a ↔ ∃ j : Nat, (j : Int) ≤ m ∧ Can l (a - j * c) := by
 induction l generalizing a with
 | nil => exact Iff.rfl
 | cons x t ih =>
  obtain ⟨c', m'⟩ := x
  constructor
  · rintro ⟨i, hi, h⟩
    obtain ⟨j, hj, h⟩ := ih.1 h
    exact ⟨j, hj, i, hi, by rw [show a - j * c - i * c' = a - i * c' - j * c by omega]; exact h⟩
  rintro ⟨j, hj, i, hi, h⟩
  exact ⟨i, hi, ih.2 ⟨j, hj, by rw [show a - i * c' - j * c = a - j * c - i * c' by omega]; exact h⟩⟩
/-- How many of a kind are taken at least, if 'P' is what the others can pay; z if there is no way. -/
noncomputable def takeF (P : Int → Prop) (c m z a : Int) : Int := lst (fun j => (j : Int) ≤ m ∧ P (a - j * c)) z
theorem takeF_cases (P : Int → Prop) (c m a : Int) : (∃ j : Nat, (j : Int) ≤ m ∧ P (a - j * c) ∧ (∀ i : Nat, i < j → ¬ P (a - i * c)) ∧ ∀ z, takeF P c m z a = j) ∨ ((∀ j : Nat, (j : Int) ≤ m → ¬ P (a - j * c)) ∧ ∀ z, takeF P c m z a = z) := by
 rcases lst_cases (fun j : Nat => (j : Int) ≤ m ∧ P (a - j * c)) 0 with ⟨j, h, h', _⟩ | ⟨h, _⟩
 · exact .inl ⟨j, h.1, h.2, fun i hi hp => h' i hi ⟨by have := h.1; omega, hp⟩, fun z => lst_some h h'⟩
 exact .inr ⟨fun j hj hp => h j ⟨hj, hp⟩, fun z => lst_none h⟩
/-- The same, out of what it is for an amount that is less by the coin. -/
theorem takeF_step {P : Int → Prop} (hP : ∀ a, P a → 0 ≤ a) {c m a : Int} (hm : 0 ≤ m) : (P a ∧ ∀ z, takeF P c m z a = 0) ∨ (¬ P a ∧ ((∃ j : Nat, takeF P c m 1001 (a - c) = j ∧ takeF P c m (-1) (a - c) = j ∧ (j : Int) < m ∧ (∀ z, takeF P c m z a = (j : Int) + 1) ∧ 0 ≤ a - c - j * c) ∨ ((∀ z, takeF P c m z a = z) ∧ (∀ j : Nat, takeF P c m 1001 (a - c) = j → takeF P c m (-1) (a - c) = j → ¬ (j : Int) < m)))) := by
 by_cases h : P a
 · left
   refine ⟨h, fun z => lst_some (j := 0) ⟨by omega, ?_⟩ (fun i hi => absurd hi (by omega))⟩
   rw [show a - ((0 : Nat) : Int) * c = a by simp]; exact h
 right
 refine ⟨h, ?_⟩
 rcases takeF_cases P c m (a - c) with ⟨j, h1, h2, h3, h4⟩ | ⟨h1, h2⟩
 · by_cases d : (j : Int) < m
   · left
     have h0 := hP _ h2
     have e : ((j + 1 : Nat) : Int) * c = j * c + c := by rw [show ((j + 1 : Nat) : Int) = (j : Int) + 1 by omega, Int.add_mul]; omega
     refine ⟨j, h4 _, h4 _, d, fun z => ?_, h0⟩
     have := lst_some (P := fun j : Nat => (j : Int) ≤ m ∧ P (a - j * c)) (z := z) (j := j + 1) ⟨by omega, by rw [e, show a - (j * c + c) = a - c - j * c by omega]; exact h2⟩ (fun i hi hp => by
      cases i with
      | zero => exact h (by have := hp.2; rw [show a - ((0 : Nat) : Int) * c = a by simp] at this; exact this)
      | succ i =>
       have ei : ((i + 1 : Nat) : Int) * c = i * c + c := by rw [show ((i + 1 : Nat) : Int) = (i : Int) + 1 by omega, Int.add_mul]; omega
       refine h3 i (by omega) ?_
       have := hp.2
       rw [ei] at this
       rw [show a - c - i * c = a - (i * c + c) by omega]; exact this)
     unfold takeF; rw [this]; omega
   right
   refine ⟨fun z => lst_none (fun i hp => ?_), fun j' e1 _ => by rw [h4] at e1; omega⟩
   cases i with
   | zero => exact h (by have := hp.2; rw [show a - ((0 : Nat) : Int) * c = a by simp] at this; exact this)
   | succ i =>
    have ei : ((i + 1 : Nat) : Int) * c = i * c + c := by rw [show ((i + 1 : Nat) : Int) = (i : Int) + 1 by omega, Int.add_mul]; omega
    have hq := hp.2
    rw [ei, show a - (i * c + c) = a - c - i * c by omega] at hq
    have hi := hp.1
    exact h3 i (by omega) hq
 right
 refine ⟨fun z => lst_none (fun i hp => ?_), fun j' e1 e2 => by rw [h2] at e1 e2; omega⟩
 cases i with
 | zero => exact h (by have := hp.2; rw [show a - ((0 : Nat) : Int) * c = a by simp] at this; exact this)
 | succ i =>
  have ei : ((i + 1 : Nat) : Int) * c = i * c + c := by rw [show ((i + 1 : Nat) : Int) = (i : Int) + 1 by omega, Int.add_mul]; omega
  have hq := hp.2
  rw [ei, show a - (i * c + c) = a - c - i * c by omega] at hq
  exact h1 i (by have := hp.1; omega) hq
theorem takeF_can {l : List (Int × Int)} {c m a : Int} : Can ((c, m) :: l) a ↔ 0 ≤ takeF (Can l) c m (-1) a := by
 rcases takeF_cases (Can l) c m a with ⟨j, h1, h2, _, h4⟩ | ⟨h1, h2⟩
 · rw [h4]; exact ⟨fun _ => by omega, fun _ => ⟨j, h1, h2⟩⟩
 rw [h2]
 constructor
 · rintro ⟨j, hj, h⟩; exact absurd h (h1 j hj)
 intro h; omega
open Classical in
/-- The same as a truth. -/
noncomputable def canB (l : List (Int × Int)) (a : Int) : Bool := decide (Can l a)
open Classical in
theorem canB_iff {l : List (Int × Int)} {a : Int} : canB l a = true ↔ Can l a := by unfold canB; rw [decide_eq_true_eq]
theorem canB_snoc (l : List (Int × Int)) (c m a : Int) : canB (l ++ [(c, m)]) a = decide (0 ≤ takeF (Can l) c m (-1) a) := by
 rw [Bool.eq_iff_iff, canB_iff, decide_eq_true_eq, ← takeF_can, can_snoc]; exact Iff.rfl
/-- The row of a kind ahead of an amount. -/
noncomputable def rowF (P : Int → Prop) (c m z v a : Int) : Int := if a < v then takeF P c m z a else 0
theorem rowF_set (N : Nat) (P : Int → Prop) (c m z v x : Int) (hv : 0 ≤ v) (hx : x = takeF P c m z v) : (tab N (rowF P c m z v)).set v.toNat x = tab N (rowF P c m z (v + 1)) := by
 rw [tab_set _ _ _ _ hv]
 refine tab_congr _ _ _ (fun a _ _ => ?_)
 unfold rowF
 by_cases q : a = v
 · rw [if_pos q, if_pos (by omega), q, hx]
 rw [if_neg q]
 by_cases q2 : a < v
 · rw [if_pos q2, if_pos (by omega)]
 rw [if_neg q2, if_neg (by omega)]
theorem spec_cnFrom.ev_2 {R : List Bool} (m : List Int) (s : Int) (hs : 0 ≤ s ∧ s ≤ 20000) (L : List Int) (n i : Int) (f : Int → Bool) (g : Int → Int) (next : Ev (fun k => spec_cnFrom.l0 k m s (tabB (s + 1).toNat fun a => decide (0 ≤ g a)) L n (wrap64 (i + 1))) R) : ∀ (d : Nat) (v : Int), 0 ≤ v → v + d = s + 1 → Ev (fun k => spec_cnFrom.l2 k m s (tabB (s + 1).toNat fun a => if a < v then decide (0 ≤ g a) else f a) (tab (s + 1).toNat g) L n i (s + 1) v) R
 | 0, v, h0, e => by
  refine Ev.step (fun k => ?_) next
  rw [spec_cnFrom.l2, if_neg (by omega)]
  congr 1
  exact tabB_congr _ _ _ (fun a _ _ => by rw [if_pos (by omega)])
 | d + 1, v, h0, e => by
  have ih := spec_cnFrom.ev_2 m s hs L n i f g next d (v + 1) (by omega) (by omega)
  refine Ev.step (fun k => ?_) ih
  rw [spec_cnFrom.l2, if_pos (by omega), if_pos h0, if_pos (by rw [tab_length]; omega), if_pos (by rw [tabB_length]; omega), rd_tab _ _ _ h0 (by omega), w64 (n := v + 1) (by omega) (by omega), tabB_set _ _ _ _ h0]
  congr 1
  refine tabB_congr _ _ _ (fun a _ _ => ?_)
  by_cases q : a = v
  · rw [if_pos q, if_pos (by omega), q]
  rw [if_neg q]
  by_cases q2 : a < v
  · rw [if_pos q2, if_pos (by omega)]
  rw [if_neg q2, if_neg (by omega)]
theorem spec_cnFrom.ev_1 {R : List Bool} (m : List Int) (s : Int) (hs : 0 ≤ s ∧ s ≤ 20000) (q : List (Int × Int)) (hq : ∀ x ∈ q, 1 ≤ x.1) (c u : Int) (hc : 1 ≤ c ∧ c ≤ 1000) (hu : 0 ≤ u ∧ u ≤ 1000) (i : Nat) (hi : i < m.length) (hr : rd m (i : Int) = u) (L : List Int) (n : Int) (next : Ev (fun k => spec_cnFrom.l2 k m s (tabB (s + 1).toNat (canB q)) (tab (s + 1).toNat (takeF (Can q) c u (-1))) L n (i : Int) (s + 1) 0) R) : ∀ (d : Nat) (v : Int), 0 ≤ v → v + d = s + 1 → Ev (fun k => spec_cnFrom.l1 k m s (tabB (s + 1).toNat (canB q)) (i : Int) c (tab (s + 1).toNat (rowF (Can q) c u (-1) v)) L n (i : Int) (s + 1) v) R
 | 0, v, h0, e => by
  refine Ev.step (fun k => ?_) next
  rw [spec_cnFrom.l1, if_neg (by omega), tabB_length, show (((s + 1).toNat : Nat) : Int) = s + 1 by omega]
  congr 1
  exact tab_congr _ _ _ (fun a _ _ => by unfold rowF; rw [if_pos (by omega)])
 | d + 1, v, h0, e => by
  have ih := spec_cnFrom.ev_1 m s hs q hq c u hc hu i hi hr L n next d (v + 1) (by omega) (by omega)
  refine Ev.step (fun k => ?_) ih
  have hP : ∀ a, Can q a → 0 ≤ a := fun a h => can_ge hq h
  have hlen : ((tab (s + 1).toNat (rowF (Can q) c u (-1) v)).length : Int) = s + 1 := by rw [tab_length]; omega
  rw [spec_cnFrom.l1, if_pos (by omega), if_pos h0, if_pos (by rw [tabB_length]; omega), rd_tabB _ _ _ h0 (by omega), w64 (n := v + 1) (by omega) (by omega)]
  rcases takeF_step hP (c := c) (m := u) (a := v) hu.1 with ⟨h1, h2⟩ | ⟨h1, h2⟩
  · rw [if_pos (canB_iff.2 h1), if_pos (by omega), rowF_set _ _ _ _ _ _ _ h0 (h2 _).symm]
  rw [if_neg (fun h => h1 (canB_iff.1 h))]
  by_cases d1 : c ≤ v
  · have e2 : rd (tab (s + 1).toNat (rowF (Can q) c u (-1) v)) (v - c) = takeF (Can q) c u (-1) (v - c) := by
     rw [rd_tab _ _ _ (by omega) (by omega)]; unfold rowF; rw [if_pos (by omega)]
    rw [if_pos d1, w64 (n := v - c) (by omega) (by omega), if_pos (by omega), if_pos (by omega), e2]
    rcases h2 with ⟨j, h3, h4, h5, h6, _⟩ | ⟨h3, h4⟩
    · rw [h4, if_pos (by omega), if_pos (by omega), if_pos (by omega), hr, if_pos h5, if_pos (by omega), w64 (n := (j : Int) + 1) (by omega) (by omega), rowF_set _ _ _ _ _ _ _ h0 (h6 _).symm]
    rcases takeF_cases (Can q) c u (v - c) with ⟨j, _, _, _, h8⟩ | ⟨_, h8⟩
    · have := h4 j (h8 _) (h8 _)
      rw [h8, if_pos (by omega), if_pos (by omega), if_pos (by omega), hr, if_neg this, if_pos (by omega), rowF_set _ _ _ _ _ _ _ h0 (h3 _).symm]
    rw [h8, if_neg (by omega), if_pos (by omega), rowF_set _ _ _ _ _ _ _ h0 (h3 _).symm]
  have e3 : takeF (Can q) c u (-1) v = -1 := by
   rcases h2 with ⟨j, _, _, _, _, h9⟩ | ⟨h3, _⟩
   · have : 0 ≤ (j : Int) * c := Int.mul_nonneg (by omega) (by omega)
     omega
   exact h3 _
  rw [if_neg d1, if_pos (by omega), rowF_set _ _ _ _ _ _ _ h0 e3.symm]
theorem spec_cnFrom.ev_0 (m l : List Int) (s : Int) (hs : 0 ≤ s ∧ s ≤ 20000) (hl : l.length = m.length) (hl' : l.length ≤ 1000) (h1 : ∀ x ∈ l, 1 ≤ x ∧ x ≤ 1000) (hm : ∀ x ∈ m, 0 ≤ x ∧ x ≤ 1000) : ∀ (t q u w : List Int), q ++ t = l → u ++ w = m → u.length = q.length → Ev (fun k => spec_cnFrom.l0 k m s (tabB (s + 1).toNat (canB (q.zip u))) l (l.length : Int) (q.length : Int)) (tabB (s + 1).toNat (canB (l.zip m)))
 | [], q, u, w, e1, e2, e3 => by
  rw [List.append_nil] at e1
  subst e1
  have : w = [] := by
   have := congrArg List.length e2
   simp at this
   exact List.eq_nil_of_length_eq_zero (by omega)
  subst this
  rw [List.append_nil] at e2
  subst e2
  exact Ev.step (f := fun _ => some (tabB (s + 1).toNat (canB (q.zip u)))) (fun k => by rw [spec_cnFrom.l0, if_neg (by omega)]) (Ev.val rfl)
 | c :: t, q, u, w, e1, e2, e3 => by
  have hll : l.length = q.length + (t.length + 1) := by rw [← e1]; simp
  obtain ⟨x, w, rfl⟩ : ∃ x w', w = x :: w' := by
   cases w with
   | nil => have := congrArg List.length e2; simp at this; omega
   | cons x w => exact ⟨x, w, rfl⟩
  have hc := h1 c (by rw [← e1]; simp)
  have hx := hm x (by rw [← e2]; simp)
  have er : rd l (q.length : Int) = c := by rw [← e1]; exact rd_app q c t
  have er2 : rd m (q.length : Int) = x := by rw [← e2, ← e3]; exact rd_app u x w
  have ew : wrap64 ((q.length : Int) + 1) = ((q ++ [c]).length : Int) := by rw [w64 (by omega) (by omega)]; simp
  have ez : (q ++ [c]).zip (u ++ [x]) = q.zip u ++ [(c, x)] := by rw [List.zip_append e3.symm]; rfl
  have hq : ∀ y ∈ q.zip u, 1 ≤ y.1 := fun y hy => by
   have := (List.of_mem_zip hy).1
   have := h1 y.1 (by rw [← e1]; simp [this]); omega
  have ih := spec_cnFrom.ev_0 m l s hs hl hl' h1 hm t (q ++ [c]) (u ++ [x]) w (by rw [← e1]; simp) (by rw [← e2]; simp) (by simp [e3])
  rw [ez, ← ew] at ih
  have e5 : (tabB (s + 1).toNat fun a => decide (0 ≤ takeF (Can (q.zip u)) c x (-1) a)) = tabB (s + 1).toNat (canB (q.zip u ++ [(c, x)])) := tabB_congr _ _ _ (fun a _ _ => (canB_snoc _ _ _ _).symm)
  rw [← e5] at ih
  have h2 := spec_cnFrom.ev_2 m s hs l (l.length : Int) (q.length : Int) (canB (q.zip u)) (takeF (Can (q.zip u)) c x (-1)) ih (s + 1).toNat 0 (by omega) (by omega)
  have e6 : (tabB (s + 1).toNat fun a => if a < 0 then decide (0 ≤ takeF (Can (q.zip u)) c x (-1) a) else canB (q.zip u) a) = tabB (s + 1).toNat (canB (q.zip u)) := tabB_congr _ _ _ (fun a _ _ => by rw [if_neg (by omega)])
  rw [e6] at h2
  have h3 := spec_cnFrom.ev_1 m s hs (q.zip u) hq c x hc hx q.length (by omega) er2 l (l.length : Int) h2 (s + 1).toNat 0 (by omega) (by omega)
  refine Ev.step (fun k => ?_) h3
  have e7 : List.replicate (s + 1).toNat (0 : Int) = tab (s + 1).toNat (rowF (Can (q.zip u)) c x (-1) 0) := by
   apply List.ext_getElem
   · simp [tab]
   intro i _ _
   simp only [tab, List.getElem_replicate, List.getElem_map, List.getElem_range, rowF]
   rw [if_neg (by omega)]
  rw [spec_cnFrom.l0, if_pos (by omega), if_pos (by omega), if_pos (by omega), er, w64 (n := s + 1) (by omega) (by omega), if_pos (by omega), if_pos (by omega), Option.bind_some, e7, tab_length, show (((s + 1).toNat : Nat) : Int) = s + 1 by omega]
theorem spec_cnFrom.ev (l m : List Int) (s : Int) (hs : 0 ≤ s ∧ s ≤ 20000) (hl : l.length = m.length) (hl' : l.length ≤ 1000) (h1 : ∀ x ∈ l, 1 ≤ x ∧ x ≤ 1000) (hm : ∀ x ∈ m, 0 ≤ x ∧ x ≤ 1000) : Ev (fun k => spec_cnFrom.f k l m s) (tabB (s + 1).toNat (canB (l.zip m))) := by
 unfold spec_cnFrom.f
 rw [w64 (n := s + 1) (by omega) (by omega)]
 refine Ev.pos (by omega) (Ev.pos (by omega) (Ev.bindc rfl (Ev.pos (by simp <;> omega) ?_)))
 have h := spec_cnFrom.ev_0 m l s hs hl hl' h1 hm l [] [] m rfl rfl rfl
 refine Ev.congr (fun k => ?_) h
 congr 1
 rw [tabB_rep, tabB_set _ _ _ _ (by omega)]
 refine tabB_congr _ _ _ (fun a _ _ => ?_)
 by_cases q : a = 0
 · rw [if_pos q]; symm; rw [canB_iff]; exact q
 rw [if_neg q]; symm; rw [Bool.eq_false_iff]; exact fun h => q (canB_iff.1 h)
/-- How many of the first kind are taken, 1001 if there is no way. -/
noncomputable def ndR : List (Int × Int) → Int → Int
 | [], a => if a = 0 then 0 else 1001
 | (c, m) :: t, a => takeF (Can t) c m 1001 a
theorem ndR_can {L : List (Int × Int)} (h : ∀ x ∈ L, x.2 ≤ 1000) (a : Int) : (ndR L a < 1001 ↔ Can L a) ∧ 0 ≤ ndR L a ∧ ndR L a ≤ 1001 := by
 cases L with
 | nil => unfold ndR; by_cases q : a = 0 <;> simp [q, Can]
 | cons x t =>
  obtain ⟨c, m⟩ := x
  have hm := h (c, m) (by simp)
  simp only at hm
  show (takeF (Can t) c m 1001 a < 1001 ↔ _) ∧ 0 ≤ takeF (Can t) c m 1001 a ∧ takeF (Can t) c m 1001 a ≤ 1001
  rcases takeF_cases (Can t) c m a with ⟨j, h1, h2, _, h4⟩ | ⟨h1, h2⟩
  · rw [h4]; exact ⟨⟨fun _ => ⟨j, h1, h2⟩, fun _ => by omega⟩, by omega, by omega⟩
  rw [h2]
  refine ⟨⟨fun h => by omega, ?_⟩, by omega, by omega⟩
  rintro ⟨j, hj, h⟩; exact absurd h (h1 j hj)
/-- The first change from a purse. -/
noncomputable def chgL : List (Int × Int) → Int → List Int
 | [], _ => []
 | (c, m) :: t, a => takeF (Can t) c m 1001 a :: chgL t (a - takeF (Can t) c m 1001 a * c)
theorem chgL_length (L : List (Int × Int)) (a : Int) : (chgL L a).length = L.length := by
 induction L generalizing a with
 | nil => rfl
 | cons x t ih => obtain ⟨c, m⟩ := x; simp [chgL, ih]
theorem take_can {t : List (Int × Int)} {c m a : Int} (h : Can ((c, m) :: t) a) : ∃ j : Nat, takeF (Can t) c m 1001 a = j ∧ (j : Int) ≤ m ∧ Can t (a - j * c) ∧ ∀ i : Nat, i < j → ¬ Can t (a - i * c) := by
 rcases takeF_cases (Can t) c m a with ⟨j, h1, h2, h3, h4⟩ | ⟨h1, h2⟩
 · exact ⟨j, h4 _, h1, h2, h3⟩
 obtain ⟨j, hj, h⟩ := h; exact absurd h (h1 j hj)
/-- The table of rows as far as it is made. -/
noncomputable def chT (L : List (Int × Int)) (N i d : Nat) (r : List Int) : List (List Int) := List.replicate i [] ++ r :: (List.range' (i + 1) d).map fun j => tab N (ndR (L.drop j))
theorem chT_length (L : List (Int × Int)) (N i d : Nat) (r : List Int) : (chT L N i d r).length = i + d + 1 := by simp [chT]; omega
theorem chT_at (L : List (Int × Int)) (N i d : Nat) (r : List Int) : rd_L2 (chT L N i d r) (i : Int) = r := by simp [rd_L2, chT, List.getD_eq_getElem?_getD]
theorem chT_next (L : List (Int × Int)) (N i d j : Nat) (r : List Int) (h : i < j) (h' : j ≤ i + d) : rd_L2 (chT L N i d r) (j : Int) = tab N (ndR (L.drop j)) := by
 simp only [rd_L2, chT, List.getD_eq_getElem?_getD, Int.toNat_natCast]
 rw [List.getElem?_append_right (by simp; omega)]
 simp only [List.length_replicate]
 obtain ⟨m, rfl⟩ : ∃ m, j = i + (m + 1) := ⟨j - i - 1, by omega⟩
 rw [show i + (m + 1) - i = m + 1 by omega, List.getElem?_cons_succ, List.getElem?_map, List.getElem?_range' (by omega)]
 simp only [Option.map_some, Option.getD_some]
 rw [show i + 1 + 1 * m = i + (m + 1) by omega]
theorem chT_set (L : List (Int × Int)) (N i d : Nat) (r r' : List Int) : (chT L N i d r).set ((i : Int)).toNat r' = chT L N i d r' := by
 unfold chT
 rw [Int.toNat_natCast, List.set_append_right _ _ (by simp)]
 simp
theorem chT_down (L : List (Int × Int)) (N i d : Nat) (r' : List Int) : (chT L N (i + 1) d (tab N (ndR (L.drop (i + 1))))).set ((i : Int)).toNat r' = chT L N i (d + 1) r' := by
 unfold chT
 rw [Int.toNat_natCast, List.replicate_succ', List.append_assoc, List.set_append_right _ _ (by simp)]
 simp [List.range'_succ]
theorem impl_ChangeFrom.ev_3 (l m : List Int) (s : Int) (hs : 0 ≤ s ∧ s ≤ 20000) (hl : l.length = m.length) (hl' : l.length ≤ 8) (h1 : ∀ x ∈ l, 1 ≤ x ∧ x ≤ 1000) (hm : ∀ x ∈ m, 0 ≤ x ∧ x ≤ 1000) : ∀ (t q : List Int) (a : Int) (acc : List Int), q ++ t = l → 0 ≤ a → a ≤ s → Can ((l.zip m).drop q.length) a → acc.length = q.length → Ev (fun k => impl_ChangeFrom.l3 k a (chT (l.zip m) (s + 1).toNat 0 l.length (tab (s + 1).toNat (ndR (l.zip m)))) acc l (l.length : Int) (q.length : Int)) (acc ++ chgL ((l.zip m).drop q.length) a, true)
 | [], q, a, acc, e, h0, h2, hc, ha => by
  rw [List.append_nil] at e
  subst e
  refine Ev.step (f := fun _ => some (acc, true)) (fun k => by rw [impl_ChangeFrom.l3, if_neg (by omega)]) (Ev.val ?_)
  rw [List.drop_of_length_le (by rw [List.length_zip]; omega)]; simp [chgL]
 | c :: t, q, a, acc, e, h0, h2, hc, ha => by
  have hll : l.length = q.length + (t.length + 1) := by rw [← e]; simp
  have hi : q.length < (l.zip m).length := by simp; omega
  have hc1 := h1 c (by rw [← e]; simp)
  have er : rd l (q.length : Int) = c := by rw [← e]; exact rd_app q c t
  have ew : wrap64 ((q.length : Int) + 1) = ((q ++ [c]).length : Int) := by rw [w64 (by omega) (by omega)]; simp
  have eg : l[q.length]'(by omega) = c := by
   have := rd_eq l q.length (by omega)
   rw [er] at this; exact this.symm
  have hd : (l.zip m).drop q.length = (c, m[q.length]'(by omega)) :: (l.zip m).drop (q.length + 1) := by
   rw [List.drop_eq_getElem_cons hi, List.getElem_zip, eg]
  have hmx := hm _ (List.getElem_mem (show q.length < m.length by omega))
  generalize m[q.length]'(by omega) = u at hd hmx
  have hL : ∀ x ∈ (l.zip m).drop (q.length + 1), 1 ≤ x.1 := fun x hx => (h1 x.1 (List.of_mem_zip (List.mem_of_mem_drop hx)).1).1
  have hrow : rd_L2 (chT (l.zip m) (s + 1).toNat 0 l.length (tab (s + 1).toNat (ndR (l.zip m)))) (q.length : Int) = tab (s + 1).toNat (ndR ((l.zip m).drop q.length)) := by
   cases hq : q.length with
   | zero => rw [List.drop_zero]; exact chT_at _ _ 0 _ _
   | succ n => exact chT_next _ _ 0 _ (n + 1) _ (by omega) (by omega)
  rw [hd] at hc
  obtain ⟨j, h3, h4, h5, _⟩ := take_can hc
  have h6 := can_ge hL h5
  have hj0 : 0 ≤ (j : Int) * c := Int.mul_nonneg (by omega) (by omega)
  have hn : ndR ((l.zip m).drop q.length) a = j := by rw [hd]; exact h3
  have ih := impl_ChangeFrom.ev_3 l m s hs hl hl' h1 hm t (q ++ [c]) (a - j * c) (acc ++ [(j : Int)]) (by rw [← e]; simp) h6 (by omega) (by simpa using h5) (by simp [ha])
  refine Ev.step (fun k => ?_) (Ev.eq ih ?_)
  · rw [impl_ChangeFrom.l3, if_pos (by omega), if_pos (by omega), if_pos (by omega), if_pos (by rw [chT_length]; omega), if_pos h0, hrow, if_pos (by rw [tab_length]; omega), if_pos (by omega), rd_tab _ _ _ h0 (by omega), hn, er, ew, w64 (n := (j : Int) * c) (by omega) (by omega), w64 (n := a - (j : Int) * c) (by omega) (by omega)]
  rw [hd, chgL, h3]; simp
theorem impl_ChangeFrom.ev_2 {R : List Int × Bool} (l m : List Int) (s : Int) (hs : 0 ≤ s ∧ s ≤ 20000) (hl' : l.length ≤ 8) (L : List (Int × Int)) (i d : Nat) (c u : Int) (hc : 1 ≤ c ∧ c ≤ 1000) (hu : 0 ≤ u ∧ u ≤ 1000) (hi : i < l.length) (hi' : i < m.length) (hr : rd l (i : Int) = c) (hr' : rd m (i : Int) = u) (hd : L.drop i = (c, u) :: L.drop (i + 1)) (hL : ∀ x ∈ L, 1 ≤ x.1 ∧ x.2 ≤ 1000) (next : Ev (fun k => impl_ChangeFrom.l1 k l m s (chT L (s + 1).toNat i (d + 1) (tab (s + 1).toNat (ndR (L.drop i)))) ((i : Int) - 1)) R) : ∀ (e : Nat) (v : Int), 0 ≤ v → v + e = s + 1 → Ev (fun k => impl_ChangeFrom.l2 k l m s (chT L (s + 1).toNat i (d + 1) (tab (s + 1).toNat (rowF (Can (L.drop (i + 1))) c u 1001 v))) (i : Int) (s + 1) v) R
 | 0, v, h0, e => by
  refine Ev.step (fun k => ?_) next
  rw [impl_ChangeFrom.l2, if_neg (by omega), w64 (n := (i : Int) - 1) (by omega) (by omega)]
  congr 2
  refine tab_congr _ _ _ (fun a _ _ => ?_)
  unfold rowF; rw [if_pos (by omega), hd]; rfl
 | e + 1, v, h0, he => by
  have ih := impl_ChangeFrom.ev_2 l m s hs hl' L i d c u hc hu hi hi' hr hr' hd hL next e (v + 1) (by omega) (by omega)
  have hL' : ∀ x ∈ L.drop (i + 1), x.2 ≤ 1000 := fun x hx => (hL x (List.mem_of_mem_drop hx)).2
  have hP : ∀ a, Can (L.drop (i + 1)) a → 0 ≤ a := fun a h => can_ge (fun x hx => (hL x (List.mem_of_mem_drop hx)).1) h
  have ew : wrap64 ((i : Int) + 1) = ((i + 1 : Nat) : Int) := by rw [w64 (by omega) (by omega)]; omega
  obtain ⟨r0, hr0⟩ : ∃ r, r = tab (s + 1).toNat (rowF (Can (L.drop (i + 1))) c u 1001 v) := ⟨_, rfl⟩
  obtain ⟨r1, hr1⟩ : ∃ r, r = tab (s + 1).toNat (ndR (L.drop (i + 1))) := ⟨_, rfl⟩
  obtain ⟨T, hT⟩ : ∃ T, T = chT L (s + 1).toNat i (d + 1) r0 := ⟨_, rfl⟩
  have hrow : rd_L2 T (i : Int) = r0 := by rw [hT]; exact chT_at _ _ _ _ _
  have hrow2 : rd_L2 T ((i + 1 : Nat) : Int) = r1 := by rw [hT, hr1]; exact chT_next _ _ _ _ _ _ (by omega) (by omega)
  have hlen : (T.length : Int) = i + d + 2 := by rw [hT, chT_length]; omega
  have hlr : (r0.length : Int) = s + 1 := by rw [hr0, tab_length]; omega
  have hl1 : (r1.length : Int) = s + 1 := by rw [hr1, tab_length]; omega
  have hv1 : rd r1 v = ndR (L.drop (i + 1)) v := by rw [hr1, rd_tab _ _ _ h0 (by omega)]
  have hv0 : 0 ≤ v - c → rd r0 (v - c) = takeF (Can (L.drop (i + 1))) c u 1001 (v - c) := fun h => by
   rw [hr0, rd_tab _ _ _ h (by omega)]; unfold rowF; rw [if_pos (by omega)]
  have hput : ∀ x, x = takeF (Can (L.drop (i + 1))) c u 1001 v → T.set ((i : Int)).toNat (r0.set v.toNat x) = chT L (s + 1).toNat i (d + 1) (tab (s + 1).toNat (rowF (Can (L.drop (i + 1))) c u 1001 (v + 1))) := fun x hx => by
   rw [hT, chT_set, hr0, rowF_set _ _ _ _ _ _ _ h0 hx]
  have hnd := (ndR_can hL' v).1
  have htc := takeF_step hP (c := c) (m := u) (a := v) hu.1
  have hcs := takeF_cases (Can (L.drop (i + 1))) c u (v - c)
  have w1 : wrap64 (v + 1) = v + 1 := w64 (by omega) (by omega)
  refine Ev.step (fun k => ?_) ih
  rw [← hr0, ← hT]
  clear hr0 hr1 hT ih next hP hL hL' hd
  generalize L.drop (i + 1) = D at hv1 hv0 hnd htc hcs hput ⊢
  generalize ndR D v = nv at hv1 hnd
  generalize takeF (Can D) c u = tk at hv0 htc hcs hput
  generalize hrl : rd l (i : Int) = rl at hr
  generalize hrm : rd m (i : Int) = rm at hr'
  rw [impl_ChangeFrom.l2, if_pos (by omega), ew, if_pos (by omega), if_pos (by omega), if_pos h0, hrow2, if_pos (by omega), hv1, w1]
  clear hv1 hrow2
  rcases htc with ⟨h1, h2⟩ | ⟨h1, h2⟩
  · rw [if_pos (hnd.2 h1), if_pos (by omega), if_pos (by omega), hrow, if_pos (by omega), hput _ (h2 _).symm]
  rw [if_neg (fun h => h1 (hnd.1 h)), if_pos (by omega), if_pos (by omega), hrl, hr]
  by_cases d1 : c ≤ v
  · rw [if_pos d1, if_pos (by omega), w64 (n := v - c) (by omega) (by omega), if_pos (by omega), hrow, if_pos (by omega), if_pos (by omega), hv0 (by omega), hrm, hr']
    rcases h2 with ⟨j, h3, h4, h5, h6, _⟩ | ⟨h3, h4⟩
    · rw [h3, if_pos h5, if_pos (by omega), w64 (n := (j : Int) + 1) (by omega) (by omega), hput _ (h6 _).symm]
    rcases hcs with ⟨j, _, _, _, h8⟩ | ⟨_, h8⟩
    · have := h4 j (h8 _) (h8 _)
      rw [h8, if_neg this, if_pos (by omega), hput _ (h3 _).symm]
    rw [h8, if_neg (by omega), if_pos (by omega), hput _ (h3 _).symm]
  have e3 : tk 1001 v = 1001 := by
   rcases h2 with ⟨j, _, _, _, _, h9⟩ | ⟨h3, _⟩
   · have : 0 ≤ (j : Int) * c := Int.mul_nonneg (by omega) (by omega)
     omega
   exact h3 _
  rw [if_neg d1, if_pos (by omega), hrow, if_pos (by omega), hput _ e3.symm]
noncomputable def changeB (l m : List Int) (s : Int) : List Int × Bool := if (purseB l m s && canB (l.zip m) s) = true then (chgL (l.zip m) s, true) else ([], false)
theorem impl_ChangeFrom.ev_1 (l m : List Int) (s : Int) (g : purseB l m s = true) : ∀ (i d : Nat), i + d = l.length → Ev (fun k => impl_ChangeFrom.l1 k l m s (chT (l.zip m) (s + 1).toNat i d (tab (s + 1).toNat (ndR ((l.zip m).drop i)))) ((i : Int) - 1)) (changeB l m s)
 | 0, d, h => by
  obtain rfl : d = l.length := by omega
  obtain ⟨gc, h0, h2, hml, hm⟩ := purse_facts g
  have hf := coins_facts gc
  have hL : ∀ x ∈ l.zip m, x.2 ≤ 1000 := fun x hx => (hm x.2 (List.of_mem_zip hx).2).2
  have hnd := ndR_can hL s
  have hrow : rd_L2 (chT (l.zip m) (s + 1).toNat 0 l.length (tab (s + 1).toNat (ndR (l.zip m)))) 0 = tab (s + 1).toNat (ndR (l.zip m)) := chT_at _ _ 0 _ _
  rw [List.drop_zero]
  by_cases c : Can (l.zip m) s
  · have h3 := impl_ChangeFrom.ev_3 l m s ⟨h0, h2⟩ hml.symm (by omega) hf.2.2.1 hm l [] s [] rfl h0 (Int.le_refl _) (by simpa using c) rfl
    refine Ev.step (fun k => ?_) (Ev.eq h3 ?_)
    · rw [impl_ChangeFrom.l1, if_neg (by omega), if_pos (by rw [chT_length]; omega), if_pos h0, hrow, if_pos (by rw [tab_length]; omega), rd_tab _ _ _ h0 (by omega), if_neg (fun e => by have := hnd.1.2 c; omega)]
      rfl
    rw [changeB, if_pos (by rw [g, canB_iff.2 c]; rfl)]; simp
  refine Ev.step (f := fun _ => some ([], false)) (fun k => ?_) (Ev.val ?_)
  · rw [impl_ChangeFrom.l1, if_neg (by omega), if_pos (by rw [chT_length]; omega), if_pos h0, hrow, if_pos (by rw [tab_length]; omega), rd_tab _ _ _ h0 (by omega), if_pos (by
     have h4 := hnd.2.2
     have : ¬ ndR (l.zip m) s < 1001 := fun h => c (hnd.1.1 h)
     omega)]
  rw [changeB, if_neg (fun h => c (canB_iff.1 (by simp only [Bool.and_eq_true] at h; exact h.2)))]
 | i + 1, d, h => by
  have ih := impl_ChangeFrom.ev_1 l m s g i (d + 1) (by omega)
  obtain ⟨gc, h0, h2, hml, hm⟩ := purse_facts g
  have hf := coins_facts gc
  have hi : i < l.length := by omega
  have hi' : i < m.length := by omega
  have hL : ∀ x ∈ l.zip m, 1 ≤ x.1 ∧ x.2 ≤ 1000 := fun x hx => ⟨(hf.2.2.1 x.1 (List.of_mem_zip hx).1).1, (hm x.2 (List.of_mem_zip hx).2).2⟩
  have hd : (l.zip m).drop i = (l[i], m[i]) :: (l.zip m).drop (i + 1) := by
   rw [List.drop_eq_getElem_cons (by simp; omega), List.getElem_zip]
  have h3 := impl_ChangeFrom.ev_2 l m s ⟨h0, h2⟩ hf.2.1 (l.zip m) i d l[i] m[i] (hf.2.2.1 _ (List.getElem_mem hi)) (hm _ (List.getElem_mem hi')) hi hi' (rd_eq l i hi) (rd_eq m i hi') hd hL ih (s + 1).toNat 0 (by omega) (by omega)
  refine Ev.step (fun k => ?_) h3
  have ei : (((i + 1 : Nat) : Int) - 1) = (i : Int) := by omega
  have e7 : List.replicate (s + 1).toNat (0 : Int) = tab (s + 1).toNat (rowF (Can ((l.zip m).drop (i + 1))) l[i] m[i] 1001 0) := by
   apply List.ext_getElem
   · simp [tab]
   intro j _ _
   simp only [tab, List.getElem_replicate, List.getElem_map, List.getElem_range, rowF]
   rw [if_neg (by omega)]
  rw [impl_ChangeFrom.l1, if_pos (by omega), ei, w64 (n := s + 1) (by omega) (by omega), if_pos (by omega), if_pos (by omega), if_pos (by omega), if_pos (by rw [chT_length]; omega), Option.bind_some, chT_down, chT_at, e7, tab_length, show (((s + 1).toNat : Nat) : Int) = s + 1 by omega]
theorem impl_ChangeFrom.ev_0 {R : List Int × Bool} (l m : List Int) (s : Int) (hs : 0 ≤ s ∧ s ≤ 20000) (T : List (List Int)) (hT : (T.length : Int) = l.length + 1) (hl : l.length ≤ 8) (next : Ev (fun k => impl_ChangeFrom.l1 k l m s (T.set l.length (tab (s + 1).toNat fun a => if a = 0 then 0 else 1001)) ((l.length : Int) - 1)) R) : ∀ (d : Nat) (v : Int), 0 ≤ v → v + d = s + 1 → Ev (fun k => impl_ChangeFrom.l0 k l m s T (tab (s + 1).toNat fun a => if a < v then 1001 else 0) (s + 1) v) R
 | 0, v, h0, e => by
  refine Ev.step (fun k => ?_) next
  rw [impl_ChangeFrom.l0, if_neg (by omega), if_pos (by rw [tab_length]; omega), if_pos (by omega), if_pos (by omega), w64 (n := (l.length : Int) - 1) (by omega) (by omega), tab_set _ _ _ _ (by omega), Int.toNat_natCast]
  congr 2
  refine tab_congr _ _ _ (fun a _ _ => ?_)
  by_cases q : a = 0
  · rw [if_pos q, if_pos q]
  rw [if_neg q, if_neg q, if_pos (by omega)]
 | d + 1, v, h0, e => by
  have ih := impl_ChangeFrom.ev_0 l m s hs T hT hl next d (v + 1) (by omega) (by omega)
  refine Ev.step (fun k => ?_) ih
  rw [impl_ChangeFrom.l0, if_pos (by omega), if_pos h0, if_pos (by rw [tab_length]; omega), w64 (n := v + 1) (by omega) (by omega), tab_set _ _ _ _ h0]
  congr 1
  refine tab_congr _ _ _ (fun a _ _ => ?_)
  by_cases q : a = v
  · rw [if_pos q, if_pos (by omega)]
  rw [if_neg q]
  by_cases q2 : a < v
  · rw [if_pos q2, if_pos (by omega)]
  rw [if_neg q2, if_neg (by omega)]
theorem impl_ChangeFrom.ev (l m : List Int) (s : Int) (hl : l.length ≤ 9223372036854775806) : Ev (fun k => impl_ChangeFrom.f k l m s) (changeB l m s) := by
 unfold impl_ChangeFrom.f
 refine Ev.bind (impl_isPurse.ev l m s hl) (Ev.ite (fun g => ?_) (fun g => Ev.val (by rw [changeB, if_neg (fun h => g (by simp only [Bool.and_eq_true] at h; exact h.1))])))
 obtain ⟨gc, h0, h2, hml, hm⟩ := purse_facts g
 have hf := coins_facts gc
 rw [w64 (n := (l.length : Int) + 1) (by omega) (by omega), w64 (n := s + 1) (by omega) (by omega)]
 refine Ev.pos (by omega) (Ev.pos (by omega) (Ev.pos (by omega) (Ev.pos (by omega) (Ev.bindc rfl ?_))))
 have h1 := impl_ChangeFrom.ev_1 l m s g l.length 0 (by omega)
 have e1 : chT (l.zip m) (s + 1).toNat l.length 0 (tab (s + 1).toNat (ndR ((l.zip m).drop l.length))) = (List.replicate ((l.length : Int) + 1).toNat ([] : List Int)).set l.length (tab (s + 1).toNat fun a => if a = 0 then 0 else 1001) := by
  rw [List.drop_of_length_le (by rw [List.length_zip]; omega), show ((l.length : Int) + 1).toNat = l.length + 1 by omega, List.replicate_succ', List.set_append_right _ _ (by simp)]
  simp [chT, ndR]
  rfl
 rw [e1] at h1
 have h3 := impl_ChangeFrom.ev_0 l m s ⟨h0, h2⟩ (List.replicate ((l.length : Int) + 1).toNat []) (by rw [List.length_replicate]; omega) hf.2.1 h1 (s + 1).toNat 0 (by omega) (by omega)
 refine Ev.congr (fun k => ?_) h3
 have e2 : List.replicate (s + 1).toNat (0 : Int) = tab (s + 1).toNat fun a => if a < 0 then 1001 else 0 := by
  apply List.ext_getElem
  · simp [tab]
  intro j _ _
  simp only [tab, List.getElem_replicate, List.getElem_map, List.getElem_range]
  rw [if_neg (by omega)]
 rw [e2, tab_length, show (((s + 1).toNat : Nat) : Int) = s + 1 by omega]
theorem spec_ChangeFrom.ev_1 {R : List Int × Bool} (l m : List Int) (s0 : Int) (D : List (Int × Int)) (P Z : List Int) (c : Int) (hc : 1 ≤ c ∧ c ≤ 1000) (hs0 : 0 ≤ s0 ∧ s0 ≤ 20000) (i : Int) (hi : i = (P.length : Int)) (hP : P.length ≤ 8) (j : Nat) (hj : (j : Int) ≤ 1000) (a : Int) (has : a ≤ s0) (hend : 0 ≤ a - j * c) (hcan : canB D (a - j * c) = true) (hno : ∀ k : Nat, k < j → canB D (a - k * c) = false) (next : Ev (fun k => spec_ChangeFrom.l0 k l m (a - j * c) (P ++ (j : Int) :: Z) l (l.length : Int) (wrap64 (i + 1))) R) : ∀ (e q : Nat), q + e = j → Ev (fun k => spec_ChangeFrom.l1 k l m (a - q * c) (P ++ (q : Int) :: Z) i c (tabB (s0 + 1).toNat (canB D)) l (l.length : Int) i) R
 | 0, q, he => by
  obtain rfl : q = j := by omega
  refine Ev.step (fun k => ?_) next
  rw [spec_ChangeFrom.l1, if_pos hend, if_pos (by rw [tabB_length]; have : 0 ≤ (q : Int) * c := Int.mul_nonneg (by omega) (by omega); omega), rd_tabB _ _ _ hend (by have : 0 ≤ (q : Int) * c := Int.mul_nonneg (by omega) (by omega); omega), if_pos hcan]
 | e + 1, q, he => by
  have ih := spec_ChangeFrom.ev_1 l m s0 D P Z c hc hs0 i hi hP j hj a has hend hcan hno next e (q + 1) (by omega)
  have e1 : ((q + 1 : Nat) : Int) * c = q * c + c := by rw [show ((q + 1 : Nat) : Int) = (q : Int) + 1 by omega, Int.add_mul]; omega
  have m1 : 0 ≤ (q : Int) * c := Int.mul_nonneg (by omega) (by omega)
  have m2 : ((q + 1 : Nat) : Int) * c ≤ (j : Int) * c := Int.mul_le_mul_of_nonneg_right (by omega) (by omega)
  have hn := hno q (by omega)
  have hgen : ∃ b, b = a - q * c ∧ 0 ≤ b ∧ b ≤ 20000 ∧ b ≤ s0 ∧ 0 ≤ b - c := ⟨a - q * c, rfl, by omega, by omega, by omega, by omega⟩
  obtain ⟨b, hb, b0, b1, b2, b3⟩ := hgen
  have e2 : a - ((q + 1 : Nat) : Int) * c = b - c := by omega
  rw [e2] at ih
  rw [← hb] at hn ⊢
  have hset : (P ++ (q : Int) :: Z).set i.toNat ((q : Int) + 1) = P ++ ((q + 1 : Nat) : Int) :: Z := by
   rw [hi, Int.toNat_natCast, List.set_append_right _ _ (by omega)]; simp
  have hrd : rd (P ++ (q : Int) :: Z) i = q := by rw [hi]; exact rd_app P q Z
  have hlen : i < ((P ++ (q : Int) :: Z).length : Int) := by rw [hi]; simp; omega
  refine Ev.step (fun k => ?_) ih
  rw [spec_ChangeFrom.l1, if_pos b0, if_pos (by rw [tabB_length]; omega), rd_tabB _ _ _ b0 (by omega), hn, if_neg (by decide), if_pos (by omega), if_pos hlen, hrd, w64 (n := b - c) (by omega) (by omega), w64 (n := (q : Int) + 1) (by omega) (by omega), hset]
theorem drop_zipL : ∀ (n : Nat) (l m : List Int), (l.zip m).drop n = (l.drop n).zip (m.drop n)
 | 0, _, _ => rfl
 | n + 1, [], m => by simp
 | n + 1, x :: l, [] => by simp
 | n + 1, x :: l, y :: m => by simp [drop_zipL n l m]
theorem spec_ChangeFrom.ev_0 (l m : List Int) (hl : l.length = m.length) (hl' : l.length ≤ 8) (h1 : ∀ x ∈ l, 1 ≤ x ∧ x ≤ 1000) (hm : ∀ x ∈ m, 0 ≤ x ∧ x ≤ 1000) : ∀ (t q : List Int) (a : Int) (acc : List Int), q ++ t = l → 0 ≤ a → a ≤ 20000 → Can ((l.zip m).drop q.length) a → acc.length = q.length → Ev (fun k => spec_ChangeFrom.l0 k l m a (acc ++ List.replicate t.length 0) l (l.length : Int) (q.length : Int)) (acc ++ chgL ((l.zip m).drop q.length) a, true)
 | [], q, a, acc, e, h0, h2, hc, ha => by
  rw [List.append_nil] at e
  subst e
  refine Ev.step (f := fun _ => some (acc ++ List.replicate ([] : List Int).length 0, true)) (fun k => by rw [spec_ChangeFrom.l0, if_neg (by omega)]) (Ev.val ?_)
  rw [List.drop_of_length_le (by rw [List.length_zip]; omega)]; simp [chgL]
 | c :: t, q, a, acc, e, h0, h2, hc, ha => by
  have hll : l.length = q.length + (t.length + 1) := by rw [← e]; simp
  have hi : q.length < (l.zip m).length := by rw [List.length_zip]; omega
  have hc1 := h1 c (by rw [← e]; simp)
  have er : rd l (q.length : Int) = c := by rw [← e]; exact rd_app q c t
  have ew : wrap64 ((q.length : Int) + 1) = ((q ++ [c]).length : Int) := by rw [w64 (by omega) (by omega)]; simp
  have eg : l[q.length]'(by omega) = c := by
   have := rd_eq l q.length (by omega)
   rw [er] at this; exact this.symm
  have hd : (l.zip m).drop q.length = (c, m[q.length]'(by omega)) :: (l.zip m).drop (q.length + 1) := by
   rw [List.drop_eq_getElem_cons hi, List.getElem_zip, eg]
  have hmx := hm _ (List.getElem_mem (show q.length < m.length by omega))
  generalize m[q.length]'(by omega) = u at hd hmx
  have hzd : (l.zip m).drop (q.length + 1) = (l.drop (q.length + 1)).zip (m.drop (q.length + 1)) := drop_zipL _ _ _
  have hL : ∀ x ∈ (l.zip m).drop (q.length + 1), 1 ≤ x.1 := fun x hx => (h1 x.1 (List.of_mem_zip (List.mem_of_mem_drop hx)).1).1
  rw [hd] at hc
  obtain ⟨j, h3, h4, h5, h6⟩ := take_can hc
  have h7 := can_ge hL h5
  have hj0 : 0 ≤ (j : Int) * c := Int.mul_nonneg (by omega) (by omega)
  have ih := spec_ChangeFrom.ev_0 l m hl hl' h1 hm t (q ++ [c]) (a - j * c) (acc ++ [(j : Int)]) (by rw [← e]; simp) h7 (by omega) (by simpa using h5) (by simp [ha])
  rw [List.append_assoc, List.singleton_append, ← ew] at ih
  have hloop := spec_ChangeFrom.ev_1 l m a ((l.zip m).drop (q.length + 1)) acc (List.replicate t.length 0) c hc1 ⟨h0, h2⟩ (q.length : Int) (by omega) (by omega) j (by omega) a (Int.le_refl _) h7 (canB_iff.2 h5) (fun k hk => by rw [Bool.eq_false_iff]; exact fun hq => h6 k hk (canB_iff.1 hq)) ih j 0 (by omega)
  have hfrom := spec_cnFrom.ev (l.drop (q.length + 1)) (m.drop (q.length + 1)) a ⟨h0, h2⟩ (by simp; omega) (by simp; omega) (fun x hx => h1 x (List.mem_of_mem_drop hx)) (fun x hx => hm x (List.mem_of_mem_drop hx))
  rw [← hzd] at hfrom
  have et : Int.toNat (((q ++ [c]).length : Int)) = q.length + 1 := by simp
  have e0 : a - ((0 : Nat) : Int) * c = a := by simp
  rw [e0] at hloop
  refine Ev.step (f := fun k => (spec_cnFrom.f k (l.drop (q.length + 1)) (m.drop (q.length + 1)) a).bind fun t360 => spec_ChangeFrom.l1 k l m a (acc ++ ((0 : Nat) : Int) :: List.replicate t.length 0) (q.length : Int) c t360 l (l.length : Int) (q.length : Int)) (fun k => ?_) (Ev.bind hfrom (Ev.eq hloop ?_))
  · rw [spec_ChangeFrom.l0, if_pos (by omega), if_pos (by omega), if_pos (by omega), ew, if_pos (by omega), if_pos (by simp; omega), if_pos (by simp; omega), er, et]
    rfl
  rw [hd, chgL, h3]; simp
theorem spec_ChangeFrom.ev (l m : List Int) (s : Int) (hl : l.length ≤ 9223372036854775806) : Ev (fun k => spec_ChangeFrom.f k l m s) (changeB l m s) := by
 unfold spec_ChangeFrom.f
 have no : changeB l m s = ([], false) → Ev (fun k => spec_ChangeFrom.j0 k l m s true) (changeB l m s) := fun h => Ev.step (f := fun _ => some ([], false)) (fun k => by rw [spec_ChangeFrom.j0, if_pos rfl]) (Ev.val h.symm)
 refine Ev.bind (spec_cnPurse.ev l m s hl) (Ev.ite (fun g => ?_) (fun g => no (by rw [changeB, if_neg (fun h => g (by simp only [Bool.and_eq_true] at h; exact h.1))])))
 obtain ⟨gc, h0, h2, hml, hm⟩ := purse_facts g
 have hf := coins_facts gc
 refine Ev.bind (spec_cnFrom.ev l m s ⟨h0, h2⟩ hml.symm (by omega) hf.2.2.1 hm) (Ev.pos h0 (Ev.pos (by rw [tabB_length]; omega) ?_))
 rw [rd_tabB _ _ _ h0 (by omega)]
 cases c : canB (l.zip m) s with
 | false => exact no (by rw [changeB, c, Bool.and_false]; rfl)
 | true =>
  have h3 := spec_ChangeFrom.ev_0 l m hml.symm hf.2.1 hf.2.2.1 hm l [] s [] rfl h0 h2 (by simpa using canB_iff.1 c) rfl
  refine Ev.step (f := fun k => spec_ChangeFrom.l0 k l m s ([] ++ List.replicate l.length 0) l (l.length : Int) (([] : List Int).length : Int)) (fun k => ?_) (Ev.eq h3 (by rw [changeB, g, c]; simp))
  rw [show (!true) = false from rfl, spec_ChangeFrom.j0, if_neg (by decide), if_pos (by omega), if_pos (by omega)]
  rfl
noncomputable def canCB (l m : List Int) (s : Int) : Bool × Bool := if purseB l m s = true then (canB (l.zip m) s, true) else (false, false)
theorem impl_CanChange.ev (l m : List Int) (s : Int) (hl : l.length ≤ 9223372036854775806) : Ev (fun k => impl_CanChange.f k l m s) (canCB l m s) := by
 unfold impl_CanChange.f
 refine Ev.bind (impl_isPurse.ev l m s hl) (Ev.ite (fun g => Ev.bind (impl_ChangeFrom.ev l m s hl) (Ev.val ?_)) (fun g => Ev.val (by rw [canCB, if_neg g])))
 rw [canCB, if_pos g, changeB, g, Bool.true_and]
 cases c : canB (l.zip m) s <;> rfl
theorem spec_CanChange.ev (l m : List Int) (s : Int) (hl : l.length ≤ 9223372036854775806) : Ev (fun k => spec_CanChange.f k l m s) (canCB l m s) := by
 unfold spec_CanChange.f
 refine Ev.bind (spec_cnPurse.ev l m s hl) (Ev.ite (fun g => ?_) (fun g => Ev.val (by rw [canCB, if_neg g])))
 obtain ⟨gc, h0, h2, hml, hm⟩ := purse_facts g
 have hf := coins_facts gc
 refine Ev.bind (spec_cnFrom.ev l m s ⟨h0, h2⟩ hml.symm (by omega) hf.2.2.1 hm) (Ev.pos h0 (Ev.pos (by rw [tabB_length]; omega) (Ev.val ?_)))
 rw [rd_tabB _ _ _ h0 (by omega), canCB, if_pos g]
/-- What some of each kind are together. -/
def worth : List (Int × Int) → Int
 | [] => 0
 | (c, m) :: t => m * c + worth t
theorem can_rest : ∀ (L : List (Int × Int)) (a : Int), Can L a → Can L (worth L - a)
 | [], a, h => by rw [show a = 0 from h]; rfl
 | (c, m) :: t, a, ⟨j, hj, h⟩ => by
  have ih := can_rest t _ h
  refine ⟨(m - j).toNat, by omega, ?_⟩
  rw [show ((m - j).toNat : Int) = m - j by omega, worth, show m * c + worth t - a - (m - (j : Int)) * c = worth t - (a - j * c) by rw [Int.sub_mul]; omega]
  exact ih
theorem payN_app {l : List Int} : ∀ (n n' : Nat) (a b : Int), PayN l n a → PayN l n' b → PayN l (n + n') (a + b)
 | 0, n', a, b, h, h' => by rw [show a = 0 from h, Int.zero_add, Nat.zero_add]; exact h'
 | n + 1, n', a, b, ⟨c, hc, h⟩, h' => by
  rw [show n + 1 + n' = (n + n') + 1 by omega]
  exact ⟨c, hc, by rw [show a + b - c = a - c + b by omega]; exact payN_app n n' _ b h h'⟩
theorem payN_mul {l : List Int} {c : Int} (hc : c ∈ l) : ∀ j : Nat, PayN l j (j * c)
 | 0 => by show ((0 : Nat) : Int) * c = 0; simp
 | j + 1 => ⟨c, hc, by rw [show ((j + 1 : Nat) : Int) * c - c = j * c by rw [show ((j + 1 : Nat) : Int) = (j : Int) + 1 by omega, Int.add_mul]; omega]; exact payN_mul hc j⟩
theorem chg_pay (l : List Int) (h1 : ∀ x ∈ l, 1 ≤ x) : ∀ (L : List (Int × Int)) (a : Int), (∀ x ∈ L, x.1 ∈ l ∧ x.2 ≤ 1000) → Can L a → (∀ x ∈ chgL L a, 0 ≤ x ∧ x ≤ 1000) ∧ ∃ n : Nat, (n : Int) = (chgL L a).sum ∧ PayN l n a
 | [], a, _, h => ⟨by simp [chgL], 0, by simp [chgL], h⟩
 | (c, m) :: t, a, hL, h => by
  obtain ⟨j, h3, h4, h5, _⟩ := take_can h
  have hcm := hL (c, m) (by simp)
  simp only at hcm
  obtain ⟨h6, n, hn, h7⟩ := chg_pay l h1 t (a - j * c) (fun x hx => hL x (by simp [hx])) h5
  rw [chgL, h3]
  refine ⟨fun x hx => ?_, j + n, by rw [List.sum_cons]; omega, ?_⟩
  · rcases List.mem_cons.1 hx with e | e
    · rw [e]; omega
    exact h6 x e
  have := payN_app j n _ _ (payN_mul hcm.1 j) h7
  rw [show (j : Int) * c + (a - j * c) = a by omega] at this
  exact this
theorem impl_gcd.ev_l : ∀ (b a : Nat), Ev (fun k => impl_gcd.l0 k (a : Int) (b : Int)) ((Nat.gcd a b : Nat) : Int) := by
 intro b
 induction b using Nat.strongRecOn with
 | ind b ih =>
  intro a
  by_cases h : b = 0
  · subst h
    exact Ev.step (f := fun _ => some (a : Int)) (fun k => by rw [impl_gcd.l0, if_pos (by simp)]) (Ev.val (by simp))
  have e : Int.tmod (a : Int) (b : Int) = ((a % b : Nat) : Int) := by rw [Int.tmod_eq_emod_of_nonneg (by omega)]; simp
  have hg : Nat.gcd b (a % b) = Nat.gcd a b := by rw [Nat.gcd_comm a b, Nat.gcd_rec b a, Nat.gcd_comm]
  refine Ev.step (fun k => ?_) (Ev.eq (ih (a % b) (Nat.mod_lt _ (by omega)) b) (by rw [hg]))
  rw [impl_gcd.l0, if_neg (by omega), e]
theorem impl_gcd.ev (a b : Nat) : Ev (fun k => impl_gcd.f k (a : Int) (b : Int)) ((Nat.gcd a b : Nat) : Int) := by
 unfold impl_gcd.f; exact impl_gcd.ev_l b a
/-- The greatest common divisor of coins. -/
def gcdL (l : List Int) (d : Nat) : Nat := l.foldl (fun d c => Nat.gcd d c.toNat) d
theorem spec_cnCommon.ev_1 {R : Int} (L : List Int) (n i : Int) : ∀ (b a : Nat), Ev (fun k => spec_cnCommon.l0 k ((Nat.gcd a b : Nat) : Int) L n (wrap64 (i + 1))) R → Ev (fun k => spec_cnCommon.l1 k (a : Int) (b : Int) L n i) R := by
 intro b
 induction b using Nat.strongRecOn with
 | ind b ih =>
  intro a next
  by_cases h : b = 0
  · subst h
    rw [Nat.gcd_zero_right] at next
    exact Ev.step (fun k => by rw [spec_cnCommon.l1, if_neg (by simp)]) next
  have e : Int.tmod (a : Int) (b : Int) = ((a % b : Nat) : Int) := by rw [Int.tmod_eq_emod_of_nonneg (by omega)]; simp
  have hg : Nat.gcd b (a % b) = Nat.gcd a b := by rw [Nat.gcd_comm a b, Nat.gcd_rec b a, Nat.gcd_comm]
  refine Ev.step (fun k => ?_) (ih (a % b) (Nat.mod_lt _ (by omega)) b (by rw [hg]; exact next))
  rw [spec_cnCommon.l1, if_pos (by omega), if_neg (by omega), e]
theorem spec_cnCommon.ev_0 : ∀ (t q : List Int) (d : Nat), (q ++ t).length ≤ 1000 → (∀ x ∈ t, 0 ≤ x) → Ev (fun k => spec_cnCommon.l0 k (d : Int) (q ++ t) ((q ++ t).length : Int) (q.length : Int)) ((gcdL t d : Nat) : Int)
 | [], q, d, h, _ => Ev.step (f := fun _ => some (d : Int)) (fun k => by rw [spec_cnCommon.l0, if_neg (by simp)]) (Ev.val rfl)
 | c :: t, q, d, h, h1 => by
  have hll : q.length + (t.length + 1) ≤ 1000 := by simpa using h
  have hc := h1 c (by simp)
  have ew : wrap64 ((q.length : Int) + 1) = ((q ++ [c]).length : Int) := by rw [w64 (by omega) (by omega)]; simp
  have ih := spec_cnCommon.ev_0 t (q ++ [c]) (Nat.gcd d c.toNat) (by simpa using h) (fun x hx => h1 x (by simp [hx]))
  rw [List.append_assoc, List.singleton_append, ← ew] at ih
  have := spec_cnCommon.ev_1 (q ++ c :: t) ((q ++ c :: t).length : Int) (q.length : Int) c.toNat d ih
  refine Ev.step (fun k => ?_) (Ev.eq this rfl)
  rw [spec_cnCommon.l0, if_pos (by simp <;> omega), if_pos (by omega), if_pos (by simp <;> omega), rd_app, Int.toNat_of_nonneg hc]
theorem spec_cnCommon.ev (l : List Int) (hl : l.length ≤ 1000) (h1 : ∀ x ∈ l, 0 ≤ x) : Ev (fun k => spec_cnCommon.f k l) ((gcdL l 0 : Nat) : Int) := by
 unfold spec_cnCommon.f
 exact spec_cnCommon.ev_0 l [] 0 hl h1
/-! ### All remainders are reached by few coins, if the coins have no common divisor -/
/-- A remainder that some coins have. -/
def Res (l : List Int) (c0 x : Int) : Prop := ∃ n p, PayN l n p ∧ p % c0 = x % c0
theorem payN_app' {l : List Int} : ∀ (n n' : Nat) (a b : Int), PayN l n a → PayN l n' b → PayN l (n + n') (a + b)
 | 0, n', a, b, h, h' => by rw [show a = 0 from h, Int.zero_add, Nat.zero_add]; exact h'
 | n + 1, n', a, b, ⟨c, hc, h⟩, h' => by
  rw [show n + 1 + n' = (n + n') + 1 by omega]
  exact ⟨c, hc, by rw [show a + b - c = a - c + b by omega]; exact payN_app' n n' _ b h h'⟩
theorem res_add {l : List Int} {c0 x y : Int} (h : Res l c0 x) (h' : Res l c0 y) : Res l c0 (x + y) := by
 obtain ⟨n, p, h1, h2⟩ := h
 obtain ⟨n', p', h3, h4⟩ := h'
 exact ⟨n + n', p + p', payN_app' _ _ _ _ h1 h3, by rw [Int.add_emod, h2, h4, ← Int.add_emod]⟩
theorem res_mul {l : List Int} {c0 x : Int} (h : Res l c0 x) : ∀ j : Nat, Res l c0 (j * x)
 | 0 => ⟨0, 0, rfl, by simp⟩
 | j + 1 => by
  have := res_add (res_mul h j) h
  rw [show (j : Int) * x + x = ((j + 1 : Nat) : Int) * x by rw [show ((j + 1 : Nat) : Int) = (j : Int) + 1 by omega, Int.add_mul]; omega] at this
  exact this
theorem res_congr {l : List Int} {c0 x y : Int} (h : Res l c0 x) (e : x % c0 = y % c0) : Res l c0 y := by
 obtain ⟨n, p, h1, h2⟩ := h; exact ⟨n, p, h1, h2.trans e⟩
theorem res_sub {l : List Int} {c0 x y : Int} (hc : 1 ≤ c0) (h : Res l c0 x) (h' : Res l c0 y) (j : Nat) : Res l c0 (x - j * y) := by
 have := res_add h (res_mul h' (j * (c0 - 1).toNat))
 refine res_congr this ?_
 have e : (((j * (c0 - 1).toNat : Nat)) : Int) = j * (c0 - 1) := by rw [Int.natCast_mul, Int.toNat_of_nonneg (by omega)]
 rw [e]
 have e2 : x + (j : Int) * (c0 - 1) * y = x - j * y + c0 * (j * y) := by
  rw [Int.mul_sub, Int.mul_one, Int.sub_mul, Int.mul_assoc, Int.mul_left_comm]; omega
 rw [e2, Int.add_mul_emod_self_left]
theorem res_gcd {l : List Int} {c0 : Int} (hc : 1 ≤ c0) : ∀ (b a : Nat), Res l c0 (a : Int) → Res l c0 (b : Int) → Res l c0 ((Nat.gcd a b : Nat) : Int) := by
 intro b
 induction b using Nat.strongRecOn with
 | ind b ih =>
  intro a ha hb
  by_cases h : b = 0
  · subst h; rw [Nat.gcd_zero_right]; exact ha
  have hg : Nat.gcd b (a % b) = Nat.gcd a b := by rw [Nat.gcd_comm a b, Nat.gcd_rec b a, Nat.gcd_comm]
  rw [← hg]
  refine ih (a % b) (Nat.mod_lt _ (by omega)) b hb ?_
  have := res_sub hc ha hb (a / b)
  have e : (a : Int) - ((a / b : Nat) : Int) * b = ((a % b : Nat) : Int) := by
   have := Nat.div_add_mod a b
   have e2 : ((b * (a / b) + a % b : Nat) : Int) = (a : Int) := by rw [this]
   rw [Int.natCast_add, Int.natCast_mul, Int.mul_comm] at e2
   omega
  rw [e] at this; exact this
theorem res_gcdL {l : List Int} {c0 : Int} (hc : 1 ≤ c0) : ∀ (t : List Int) (d : Nat), (∀ x ∈ t, x ∈ l ∧ 0 ≤ x) → Res l c0 (d : Int) → Res l c0 ((gcdL t d : Nat) : Int)
 | [], d, _, h => h
 | c :: t, d, ht, h => by
  have hcl := ht c (by simp)
  show Res l c0 ((gcdL t (Nat.gcd d c.toNat) : Nat) : Int)
  refine res_gcdL hc t _ (fun x hx => ht x (by simp [hx])) (res_gcd hc _ _ h ?_)
  rw [Int.toNat_of_nonneg hcl.2]
  exact ⟨1, c, ⟨c, hcl.1, by show c - c = 0; omega⟩, rfl⟩
theorem res_all {l : List Int} {c0 : Int} (hc : 1 ≤ c0) (h1 : ∀ x ∈ l, 0 ≤ x) (hg : gcdL l 0 = 1) (r : Nat) : Res l c0 (r : Int) := by
 have := res_gcdL hc l 0 (fun x hx => ⟨hx, h1 x hx⟩) ⟨0, 0, rfl, rfl⟩
 rw [hg] at this
 have := res_mul this r
 simpa using this
/-- A remainder that at most so many coins have. -/
def ResN (l : List Int) (c0 : Int) (n r : Nat) : Prop := ∃ k, k ≤ n ∧ ∃ p, PayN l k p ∧ p % c0 = (r : Int)
open Classical in
noncomputable def resCount (l : List Int) (c0 : Int) (n : Nat) : Nat := (List.range c0.toNat).countP fun r => decide (ResN l c0 n r)
theorem countP_lt {P Q : Nat → Bool} : ∀ (l : List Nat), (∀ x ∈ l, P x = true → Q x = true) → (∃ x ∈ l, Q x = true ∧ P x = false) → l.countP P < l.countP Q
 | [], _, ⟨x, hx, _⟩ => by cases hx
 | y :: l, h, ⟨x, hx, h1, h2⟩ => by
  have hle : l.countP P ≤ l.countP Q := List.countP_mono_left (fun z hz hp => h z (by simp [hz]) hp)
  rw [List.countP_cons, List.countP_cons]
  have hy := h y (by simp)
  rcases List.mem_cons.1 hx with e | e
  · subst e; rw [h1, h2]; simp; omega
  have ih := countP_lt l (fun z hz hp => h z (by simp [hz]) hp) ⟨x, e, h1, h2⟩
  cases hp : P y with
  | false => simp; omega
  | true => rw [hy hp]; simp; omega
theorem res_few {l : List Int} {c0 : Int} (hc : 1 ≤ c0) (h1 : ∀ x ∈ l, 0 ≤ x) (hg : gcdL l 0 = 1) : ∀ n : Nat, (∀ r : Nat, (r : Int) < c0 → ResN l c0 n r) ∨ n + 1 ≤ resCount l c0 n := by
 classical
 have hall : ∀ r : Nat, (r : Int) < c0 → ∃ n p, PayN l n p ∧ p % c0 = (r : Int) := fun r hr => by
  obtain ⟨n, p, h2, h3⟩ := res_all hc h1 hg r
  exact ⟨n, p, h2, by rw [h3]; exact Int.emod_eq_of_lt (by omega) hr⟩
 intro n
 induction n with
 | zero =>
  right
  unfold resCount
  have : 0 < (List.range c0.toNat).countP fun r => decide (ResN l c0 0 r) := by
   rw [List.countP_pos_iff]
   exact ⟨0, by simp; omega, decide_eq_true ⟨0, Nat.le_refl _, 0, rfl, by simp⟩⟩
  omega
 | succ n ih =>
  rcases ih with ih | ih
  · left
    intro r hr
    obtain ⟨k, hk, h⟩ := ih r hr
    exact ⟨k, by omega, h⟩
  by_cases hs : ∃ r : Nat, (r : Int) < c0 ∧ ResN l c0 (n + 1) r ∧ ¬ ResN l c0 n r
  · right
    obtain ⟨r, hr, h2, h3⟩ := hs
    have := countP_lt (P := fun r => decide (ResN l c0 n r)) (Q := fun r => decide (ResN l c0 (n + 1) r)) (List.range c0.toNat) (fun x _ hx => by
     obtain ⟨k, hk, h⟩ := of_decide_eq_true hx
     exact decide_eq_true ⟨k, by omega, h⟩) ⟨r, by simp; omega, decide_eq_true h2, decide_eq_false h3⟩
    unfold resCount at ih ⊢
    omega
  left
  have key : ∀ (k : Nat) (p : Int), PayN l k p → ResN l c0 n (p % c0).toNat := by
   intro k
   induction k with
   | zero =>
    intro p hp
    rw [show p = 0 from hp]
    exact ⟨0, by omega, 0, rfl, by simp⟩
   | succ k ihk =>
    rintro p ⟨c, hcl, hp⟩
    obtain ⟨k', hk', p', h2, h3⟩ := ihk _ hp
    have m0 := Int.emod_nonneg (p - c) (show c0 ≠ 0 by omega)
    rw [Int.toNat_of_nonneg m0] at h3
    have m1 := Int.emod_nonneg p (show c0 ≠ 0 by omega)
    have m2 := Int.emod_lt_of_pos p (show 0 < c0 by omega)
    have h4 : ResN l c0 (n + 1) (p % c0).toNat := ⟨k' + 1, by omega, p' + c, ⟨c, hcl, by rw [show p' + c - c = p' by omega]; exact h2⟩, by
     rw [Int.toNat_of_nonneg m1, Int.add_emod, h3, ← Int.add_emod, show p - c + c = p by omega]⟩
    exact Classical.byContradiction fun hn => hs ⟨_, by omega, h4, hn⟩
  intro r hr
  obtain ⟨k, p, h2, h3⟩ := hall r hr
  obtain ⟨k', hk', h⟩ := key k p h2
  rw [h3, Int.toNat_natCast] at h
  exact ⟨k', by omega, h⟩
theorem resCount_le (l : List Int) (c0 : Int) (n : Nat) : resCount l c0 n ≤ c0.toNat := by
 unfold resCount
 have := List.countP_le_length (p := fun r => @decide (ResN l c0 n r) (Classical.propDecidable _)) (l := List.range c0.toNat)
 simpa using this
theorem payN_le {l : List Int} {M : Int} (h : ∀ x ∈ l, x ≤ M) : ∀ (n : Nat) (a : Int), PayN l n a → a ≤ n * M
 | 0, a, ha => by rw [show a = 0 from ha]; simp
 | n + 1, a, ⟨c, hc, ha⟩ => by
  have := payN_le h n _ ha
  have := h c hc
  rw [show ((n + 1 : Nat) : Int) = (n : Int) + 1 by omega, Int.add_mul]; omega
/-- Each remainder is one of an amount that is small. -/
theorem res_small {l : List Int} {c0 M : Int} (hc : 1 ≤ c0) (h1 : ∀ x ∈ l, 0 ≤ x) (hM : ∀ x ∈ l, x ≤ M) (hM0 : 0 ≤ M) (hg : gcdL l 0 = 1) (r : Nat) (hr : (r : Int) < c0) : ∃ k p, PayN l k p ∧ p % c0 = (r : Int) ∧ p ≤ (c0 - 1) * M := by
 rcases res_few hc h1 hg (c0 - 1).toNat with h | h
 · obtain ⟨k, hk, p, h2, h3⟩ := h r hr
   refine ⟨k, p, h2, h3, Int.le_trans (payN_le hM k p h2) (Int.mul_le_mul_of_nonneg_right (by omega) hM0)⟩
 have hle := resCount_le l c0 (c0 - 1).toNat
 -- all are counted
 classical
 have heq : resCount l c0 (c0 - 1).toNat = (List.range c0.toNat).length := by rw [List.length_range]; omega
 unfold resCount at heq
 have := List.countP_eq_length.1 heq r (by simp; omega)
 obtain ⟨k, hk, p, h2, h3⟩ := of_decide_eq_true this
 exact ⟨k, p, h2, h3, Int.le_trans (payN_le hM k p h2) (Int.mul_le_mul_of_nonneg_right (by omega) hM0)⟩
theorem rd_set (T : List Int) (i : Nat) (a : Int) (hi : i < T.length) (j : Nat) : rd (T.set i a) (j : Int) = if j = i then a else rd T (j : Int) := by
 unfold rd
 rw [Int.toNat_natCast, List.getD_eq_getElem?_getD, List.getD_eq_getElem?_getD]
 by_cases e : j = i
 · subst e; rw [List.getElem?_set_self hi, if_pos rfl]; rfl
 rw [List.getElem?_set_ne (fun h => e h.symm), if_neg e]
theorem sum_set : ∀ (T : List Int) (i : Nat) (a : Int), i < T.length → (T.set i a).sum = T.sum - rd T (i : Int) + a
 | [], i, a, h => by simp at h
 | x :: T, 0, a, _ => by simp [rd]; omega
 | x :: T, i + 1, a, h => by
  have ih := sum_set T i a (by simpa using h)
  have e : rd (x :: T) ((i + 1 : Nat) : Int) = rd T (i : Int) := by simp [rd, List.getD_eq_getElem?_getD]
  rw [e, List.set_cons_succ, List.sum_cons, List.sum_cons, ih]; omega
/-- What holds of the least amounts by remainders. -/
structure LInv (l : List Int) (c0 : Int) (T : List Int) : Prop where
 len : (T.length : Int) = c0
 lo : ∀ r : Nat, (r : Int) < c0 → 0 ≤ rd T r
 hi : ∀ r : Nat, (r : Int) < c0 → rd T r ≤ 1099511627776
 pay : ∀ r : Nat, (r : Int) < c0 → rd T r < 1099511627776 → (∃ n, PayN l n (rd T r)) ∧ rd T r % c0 = r
 zero : rd T 0 = 0
/-- No coin makes the amount of another remainder less. -/
def LOk (c0 : Int) (T : List Int) (r : Nat) (c : Int) : Prop := rd T ((rd T r + c) % c0) ≤ rd T r + c
theorem residues_4 (l : List Int) (c0 : Int) (hc0 : 1 ≤ c0 ∧ c0 ≤ 1000) (hl : l.length ≤ 8) (hr0 : rd l 0 = c0) (hl0 : 0 < l.length) (h1 : ∀ x ∈ l, 1 ≤ x ∧ x ≤ 1000) (T0 : List Int) (r : Nat) (hr : (r : Int) < c0) : ∀ (s q : List Int), q ++ s = l → ∀ (T : List Int) (b : Bool), LInv l c0 T → (b = false → T = T0 ∧ (∀ r', r' < r → ∀ c ∈ l, LOk c0 T0 r' c) ∧ ∀ c ∈ q, LOk c0 T0 r c) → (b = true → T.sum < T0.sum) → ∃ T' b', LInv l c0 T' ∧ (b' = false → T' = T0 ∧ ∀ r', r' < r + 1 → ∀ c ∈ l, LOk c0 T0 r' c) ∧ (b' = true → T'.sum < T0.sum) ∧ ∀ R, Ev (fun k => impl_residues.l3 k l T' b' c0 ((r + 1 : Nat) : Int)) R → Ev (fun k => impl_residues.l4 k l T b (r : Int) c0 (r : Int) l (l.length : Int) (q.length : Int)) R
 | [], q, e, T, b, hI, hf, ht => by
  rw [List.append_nil] at e
  subst e
  refine ⟨T, b, hI, fun hb => ⟨(hf hb).1, fun r' h c hc => ?_⟩, ht, fun R next => ?_⟩
  · by_cases q' : r' = r
    · subst q'; exact (hf hb).2.2 c hc
    exact (hf hb).2.1 r' (by omega) c hc
  refine Ev.step (fun k => ?_) next
  rw [impl_residues.l4, if_neg (by omega), w64 (by omega) (by omega)]; rfl
 | c :: s, q, e, T, b, hI, hf, ht => by
  have hll : l.length = q.length + (s.length + 1) := by rw [← e]; simp
  have hcl : c ∈ l := by rw [← e]; simp
  have hc := h1 c hcl
  have er : rd l (q.length : Int) = c := by rw [← e]; exact rd_app q c s
  have ew : wrap64 ((q.length : Int) + 1) = ((q ++ [c]).length : Int) := by rw [w64 (by omega) (by omega)]; simp
  have hlo := hI.lo r hr
  have hhi := hI.hi r hr
  have hlen := hI.len
  obtain ⟨a, ha⟩ : ∃ a, a = rd T (r : Int) + c := ⟨_, rfl⟩
  have ewa : wrap64 (rd T (r : Int) + c) = a := by rw [ha]; exact w64 (by omega) (by omega)
  have m0 := Int.emod_nonneg a (show c0 ≠ 0 by omega)
  have m1 := Int.emod_lt_of_pos a (show 0 < c0 by omega)
  have em : Int.tmod a c0 = a % c0 := Int.tmod_eq_emod_of_nonneg (by omega)
  obtain ⟨i, hi⟩ : ∃ i : Nat, (i : Int) = a % c0 := ⟨(a % c0).toNat, Int.toNat_of_nonneg m0⟩
  rw [← hi] at m0 m1 em
  have hiT : i < T.length := by omega
  have hstep : ∀ k, impl_residues.l4 (k + 1) l T b (r : Int) c0 (r : Int) l (l.length : Int) (q.length : Int) = if a < rd T (i : Int) then impl_residues.l4 k l (T.set i a) true (r : Int) c0 (r : Int) l (l.length : Int) ((q ++ [c]).length : Int) else impl_residues.l4 k l T b (r : Int) c0 (r : Int) l (l.length : Int) ((q ++ [c]).length : Int) := fun k => by
   rw [impl_residues.l4, if_pos (by omega), if_pos (by omega), if_pos (by omega), if_pos (by omega), if_pos (by omega), if_pos (by omega), hr0, if_neg (by omega), er, ewa, em, if_pos m0, if_pos (by omega), ew, Int.toNat_natCast]
  by_cases d : a < rd T (i : Int)
  · have hib := hI.hi i m1
    have hrb : rd T (r : Int) < 1099511627776 := by omega
    obtain ⟨⟨n, hn⟩, hnm⟩ := hI.pay r hr hrb
    have hset := rd_set T i a hiT
    have hI' : LInv l c0 (T.set i a) := by
     refine ⟨by rw [List.length_set]; exact hlen, fun r' h' => ?_, fun r' h' => ?_, fun r' h' h'' => ?_, ?_⟩
     · rw [hset]; split
       · omega
       exact hI.lo r' h'
     · rw [hset]; split
       · omega
       exact hI.hi r' h'
     · rw [hset] at h'' ⊢
       split
       · rename_i e'
         subst e'
         exact ⟨⟨n + 1, c, hcl, by rw [ha, show rd T (r : Int) + c - c = rd T (r : Int) by omega]; exact hn⟩, hi.symm⟩
       rename_i e'
       rw [if_neg e'] at h''
       exact hI.pay r' h' h''
     have := hset 0
     rw [show ((0 : Nat) : Int) = 0 from rfl] at this
     rw [this]
     split
     · rename_i e'
       have hz := hI.zero
       rw [← e', show ((0 : Nat) : Int) = 0 from rfl, hz] at d
       omega
     exact hI.zero
    have hs := sum_set T i a hiT
    obtain ⟨T', b', g1, g2, g3, g4⟩ := residues_4 l c0 hc0 hl hr0 hl0 h1 T0 r hr s (q ++ [c]) (by rw [← e]; simp) (T.set i a) true hI' (fun h => by cases h) (fun _ => by
     cases hb : b with
     | false => rw [← (hf hb).1]; omega
     | true => have := ht hb; omega)
    exact ⟨T', b', g1, g2, g3, fun R next => Ev.step (fun k => by rw [hstep, if_pos d]) (g4 R next)⟩
  obtain ⟨T', b', g1, g2, g3, g4⟩ := residues_4 l c0 hc0 hl hr0 hl0 h1 T0 r hr s (q ++ [c]) (by rw [← e]; simp) T b hI (fun hb => by
   obtain ⟨f1, f2, f3⟩ := hf hb
   refine ⟨f1, f2, fun c' hc' => ?_⟩
   rcases List.mem_append.1 hc' with q' | q'
   · exact f3 c' q'
   rw [List.mem_singleton.1 q']
   unfold LOk
   rw [← f1, ← ha, ← hi]; omega) ht
  exact ⟨T', b', g1, g2, g3, fun R next => Ev.step (fun k => by rw [hstep, if_neg d]) (g4 R next)⟩
theorem residues_3 (l : List Int) (c0 : Int) (hc0 : 1 ≤ c0 ∧ c0 ≤ 1000) (hl : l.length ≤ 8) (hr0 : rd l 0 = c0) (hl0 : 0 < l.length) (h1 : ∀ x ∈ l, 1 ≤ x ∧ x ≤ 1000) (T0 : List Int) : ∀ (d r : Nat), (r : Int) + d = c0 → ∀ (T : List Int) (b : Bool), LInv l c0 T → (b = false → T = T0 ∧ ∀ r', r' < r → ∀ c ∈ l, LOk c0 T0 r' c) → (b = true → T.sum < T0.sum) → ∃ T' b', LInv l c0 T' ∧ (b' = false → T' = T0 ∧ ∀ r' : Nat, (r' : Int) < c0 → ∀ c ∈ l, LOk c0 T0 r' c) ∧ (b' = true → T'.sum < T0.sum) ∧ ∀ R, Ev (fun k => impl_residues.l2 k l T' b') R → Ev (fun k => impl_residues.l3 k l T b c0 (r : Int)) R
 | 0, r, e, T, b, hI, hf, ht => by
  refine ⟨T, b, hI, fun hb => ⟨(hf hb).1, fun r' h c hc => (hf hb).2 r' (by omega) c hc⟩, ht, fun R next => ?_⟩
  exact Ev.step (fun k => by rw [impl_residues.l3, if_neg (by omega)]) next
 | d + 1, r, e, T, b, hI, hf, ht => by
  obtain ⟨T1, b1, g1, g2, g3, g4⟩ := residues_4 l c0 hc0 hl hr0 hl0 h1 T0 r (by omega) l [] rfl T b hI (fun hb => ⟨(hf hb).1, (hf hb).2, by simp⟩) ht
  obtain ⟨T2, b2, k1, k2, k3, k4⟩ := residues_3 l c0 hc0 hl hr0 hl0 h1 T0 d (r + 1) (by omega) T1 b1 g1 g2 g3
  refine ⟨T2, b2, k1, k2, k3, fun R next => Ev.step (fun k => ?_) (g4 R (k4 R next))⟩
  rw [impl_residues.l3, if_pos (by omega)]; rfl
theorem linv_sum {l : List Int} {c0 : Int} {T : List Int} (h : LInv l c0 T) : 0 ≤ T.sum := by
 refine sum_nonneg T (fun x hx => ?_)
 obtain ⟨i, hi, rfl⟩ := List.getElem_of_mem hx
 have := h.lo i (by have := h.len; omega)
 rw [rd_eq T i hi] at this; exact this
theorem residues_2 (l : List Int) (c0 : Int) (hc0 : 1 ≤ c0 ∧ c0 ≤ 1000) (hl : l.length ≤ 8) (hr0 : rd l 0 = c0) (hl0 : 0 < l.length) (h1 : ∀ x ∈ l, 1 ≤ x ∧ x ≤ 1000) : ∀ (n : Nat) (T : List Int), T.sum ≤ n → LInv l c0 T → ∃ T', LInv l c0 T' ∧ (∀ r' : Nat, (r' : Int) < c0 → ∀ c ∈ l, LOk c0 T' r' c) ∧ Ev (fun k => impl_residues.l2 k l T true) (T', true) := by
 intro n
 induction n with
 | zero =>
  intro T hT hI
  obtain ⟨T1, b1, g1, g2, g3, g4⟩ := residues_3 l c0 hc0 hl hr0 hl0 h1 T c0.toNat 0 (by omega) T false hI (fun _ => ⟨rfl, fun r' h => absurd h (by omega)⟩) (fun h => by cases h)
  cases b1 with
  | false =>
   obtain ⟨rfl, hok⟩ := g2 rfl
   refine ⟨T1, g1, hok, Ev.step (fun k => ?_) (g4 _ (Ev.step (f := fun _ => some (T1, true)) (fun k => by rw [impl_residues.l2, if_neg (by decide)]) (Ev.val rfl)))⟩
   rw [impl_residues.l2, if_pos rfl, hI.len]; rfl
  | true =>
   have := g3 rfl
   have := linv_sum g1
   have := linv_sum hI
   omega
 | succ n ih =>
  intro T hT hI
  obtain ⟨T1, b1, g1, g2, g3, g4⟩ := residues_3 l c0 hc0 hl hr0 hl0 h1 T c0.toNat 0 (by omega) T false hI (fun _ => ⟨rfl, fun r' h => absurd h (by omega)⟩) (fun h => by cases h)
  cases b1 with
  | false =>
   obtain ⟨rfl, hok⟩ := g2 rfl
   refine ⟨T1, g1, hok, Ev.step (fun k => ?_) (g4 _ (Ev.step (f := fun _ => some (T1, true)) (fun k => by rw [impl_residues.l2, if_neg (by decide)]) (Ev.val rfl)))⟩
   rw [impl_residues.l2, if_pos rfl, hI.len]; rfl
  | true =>
   have := g3 rfl
   obtain ⟨T', k1, k2, k3⟩ := ih T1 (by omega) g1
   refine ⟨T', k1, k2, Ev.step (fun k => ?_) (g4 _ k3)⟩
   rw [impl_residues.l2, if_pos rfl, hI.len]; rfl
theorem residues_1 {R : List Int × Bool} (l : List Int) (c0 : Nat) (hc0 : 1 ≤ c0 ∧ c0 ≤ 1000) (next : Ev (fun k => impl_residues.l2 k l (tab c0 fun a => if a = 0 then 0 else 1099511627776) true) R) : ∀ (d v : Nat), v + d = c0 → Ev (fun k => impl_residues.l1 k l (tab c0 fun a => if a < (v : Int) then 1099511627776 else 0) (c0 : Int) (v : Int)) R
 | 0, v, e => by
  refine Ev.step (fun k => ?_) next
  rw [impl_residues.l1, if_neg (by omega), if_pos (by rw [tab_length]; omega), tab_set _ _ _ _ (by omega)]
  congr 1
  refine tab_congr _ _ _ (fun a _ _ => ?_)
  by_cases q : a = 0
  · rw [if_pos q, if_pos q]
  rw [if_neg q, if_neg q, if_pos (by omega)]
 | d + 1, v, e => by
  have ih := residues_1 l c0 hc0 next d (v + 1) (by omega)
  refine Ev.step (fun k => ?_) ih
  rw [impl_residues.l1, if_pos (by omega), if_pos (by omega), if_pos (by rw [tab_length]; omega), w64 (n := (v : Int) + 1) (by omega) (by omega), tab_set _ _ _ _ (by omega)]
  congr 1
  refine tab_congr _ _ _ (fun a _ _ => ?_)
  by_cases q : a = (v : Int)
  · rw [if_pos q, if_pos (by omega)]
  rw [if_neg q]
  by_cases q2 : a < (v : Int)
  · rw [if_pos q2, if_pos (by omega)]
  rw [if_neg q2, if_neg (by omega)]
theorem residues_0 {R : List Int × Bool} (l : List Int) (hl : l.length ≤ 8) (h1 : ∀ x ∈ l, 1 ≤ x ∧ x ≤ 1000) : ∀ (t q : List Int) (d : Nat), q ++ t = l → Ev (fun k => impl_residues.l0 k l ((gcdL t d : Nat) : Int) l (l.length : Int) (l.length : Int)) R → Ev (fun k => impl_residues.l0 k l (d : Int) l (l.length : Int) (q.length : Int)) R
 | [], q, d, e, next => by rw [List.append_nil] at e; subst e; exact next
 | c :: t, q, d, e, next => by
  have hll : l.length = q.length + (t.length + 1) := by rw [← e]; simp
  have hc := h1 c (by rw [← e]; simp)
  have er : rd l (q.length : Int) = c := by rw [← e]; exact rd_app q c t
  have ew : wrap64 ((q.length : Int) + 1) = ((q ++ [c]).length : Int) := by rw [w64 (by omega) (by omega)]; simp
  have ih := residues_0 l hl h1 t (q ++ [c]) (Nat.gcd d c.toNat) (by rw [← e]; simp) next
  have hg := impl_gcd.ev d c.toNat
  rw [Int.toNat_of_nonneg (by omega)] at hg
  refine Ev.step (f := fun k => (impl_gcd.f k (d : Int) c).bind fun t402 => impl_residues.l0 k l t402 l (l.length : Int) ((q ++ [c]).length : Int)) (fun k => ?_) (Ev.bind hg ih)
  rw [impl_residues.l0, if_pos (by omega), if_pos (by omega), if_pos (by omega), er, ew]
/-- The least amounts by remainders, as they come out. -/
structure Least (l : List Int) (T : List Int) : Prop where
 len : (T.length : Int) = rd l 0
 pay : ∀ r : Nat, (r : Int) < rd l 0 → (∃ n, PayN l n (rd T r)) ∧ rd T r % rd l 0 = r ∧ 0 ≤ rd T r
 le : ∀ n a, PayN l n a → rd T (a % rd l 0) ≤ a
theorem coins_head {l : List Int} (h : coinsB l = true) : 1 ≤ rd l 0 ∧ rd l 0 ≤ 1000 ∧ rd l 0 ∈ l := by
 have hf := coins_facts h
 have hm : rd l 0 ∈ l := by
  have := rd_eq l 0 (by omega)
  rw [show ((0 : Nat) : Int) = 0 from rfl] at this
  rw [this]; exact List.getElem_mem _
 have := hf.2.2.1 _ hm
 exact ⟨this.1, this.2, hm⟩
theorem impl_residues.ev (l : List Int) (hl : l.length ≤ 9223372036854775806) : (coinsB l = true ∧ gcdL l 0 = 1 ∧ ∃ T, Least l T ∧ Ev (fun k => impl_residues.f k l) (T, true)) ∨ (¬ (coinsB l = true ∧ gcdL l 0 = 1) ∧ Ev (fun k => impl_residues.f k l) ([], false)) := by
 by_cases g : coinsB l = true
 · have hf := coins_facts g
   obtain ⟨c1, c2, c3⟩ := coins_head g
   have hl0 : 0 < l.length := by omega
   have h1 : ∀ x ∈ l, 0 ≤ x := fun x hx => by have := (hf.2.2.1 x hx).1; omega
   have pre : ∀ R, Ev (fun k => impl_residues.l0 k l ((gcdL l 0 : Nat) : Int) l (l.length : Int) (l.length : Int)) R → Ev (fun k => impl_residues.f k l) R := fun R next => by
    have := residues_0 l hf.2.1 hf.2.2.1 l [] 0 rfl next
    unfold impl_residues.f
    exact Ev.bind (impl_AreCoins.ev l hl) (Ev.pos g this)
   by_cases hg : gcdL l 0 = 1
   · left
     refine ⟨g, hg, ?_⟩
     obtain ⟨c, hc⟩ : ∃ c : Nat, (c : Int) = rd l 0 := ⟨(rd l 0).toNat, Int.toNat_of_nonneg (by omega)⟩
     have hT0 : LInv l (rd l 0) (tab c fun a => if a = 0 then 0 else 1099511627776) := by
      have rdT : ∀ r : Nat, (r : Int) < rd l 0 → rd (tab c fun a => if a = 0 then 0 else 1099511627776) (r : Int) = if (r : Int) = 0 then 0 else 1099511627776 := fun r hr => rd_tab _ _ _ (by omega) (by omega)
      refine ⟨by rw [tab_length]; exact hc, fun r hr => ?_, fun r hr => ?_, fun r hr h => ?_, ?_⟩
      · rw [rdT r hr]; split <;> omega
      · rw [rdT r hr]; split <;> omega
      · rw [rdT r hr] at h ⊢
        split at h
        · rename_i q; rw [if_pos q]; exact ⟨⟨0, rfl⟩, by rw [q]; simp⟩
        omega
      have := rdT 0 (by omega)
      rw [show ((0 : Nat) : Int) = 0 from rfl] at this
      rw [this]; rfl
     have hsum : (tab c fun a => if a = 0 then (0 : Int) else 1099511627776).sum ≤ ((1099511627776000 : Nat) : Int) := by
      have := sum_le (tab c fun a => if a = 0 then (0 : Int) else 1099511627776) 1099511627776 (fun x hx => by
       unfold tab at hx
       obtain ⟨i, _, rfl⟩ := List.mem_map.1 hx
       dsimp only
       split <;> omega)
      rw [tab_length] at this
      have h9 : (c : Int) * 1099511627776 ≤ 1000 * 1099511627776 := Int.mul_le_mul_of_nonneg_right (by omega) (by omega)
      omega
     obtain ⟨T, k1, k2, k3⟩ := residues_2 l (rd l 0) ⟨c1, c2⟩ hf.2.1 rfl hl0 hf.2.2.1 1099511627776000 _ hsum hT0
     have hmod : ∀ a : Int, ∃ i : Nat, (i : Int) = a % rd l 0 ∧ (i : Int) < rd l 0 := fun a => by
      have m0 := Int.emod_nonneg a (show rd l 0 ≠ 0 by omega)
      have m1 := Int.emod_lt_of_pos a (show 0 < rd l 0 by omega)
      exact ⟨(a % rd l 0).toNat, Int.toNat_of_nonneg m0, by rw [Int.toNat_of_nonneg m0]; exact m1⟩
     have hge := fun (n : Nat) (a : Int) => payN_ge (l := l) (fun x hx => (hf.2.2.1 x hx).1) n a
     have hle : ∀ n a, PayN l n a → a < 1099511627776 → rd T (a % rd l 0) ≤ a := by
      intro n
      induction n with
      | zero => intro a ha _; rw [show a = 0 from ha]; simp [k1.zero]
      | succ n ih =>
       rintro a ⟨c', hc', ha⟩ hb
       have hcb := hf.2.2.1 c' hc'
       have h4 := ih _ ha (by omega)
       obtain ⟨i, hi, hi'⟩ := hmod (a - c')
       rw [← hi] at h4
       have h5 := k2 i hi' c' hc'
       unfold LOk at h5
       have hg0 := hge n _ ha
       obtain ⟨_, h6⟩ := k1.pay i hi' (by omega)
       have h7 : (rd T (i : Int) + c') % rd l 0 = a % rd l 0 := by
        rw [Int.add_emod, h6, hi, ← Int.add_emod, show a - c' + c' = a by omega]
       rw [h7] at h5; omega
     have hsm : ∀ r : Nat, (r : Int) < rd l 0 → rd T (r : Int) < 1099511627776 := fun r hr => by
      obtain ⟨k, p, h2, h3, h4⟩ := res_small (M := 1000) c1 h1 (fun x hx => (hf.2.2.1 x hx).2) (by omega) hg r hr
      have := hle k p h2 (by omega)
      rw [h3] at this; omega
     refine ⟨T, ⟨k1.len, fun r hr => ?_, fun n a ha => ?_⟩, pre _ ?_⟩
     · obtain ⟨p1, p2⟩ := k1.pay r hr (hsm r hr)
       exact ⟨p1, p2, k1.lo r hr⟩
     · by_cases hb : a < 1099511627776
       · exact hle n a ha hb
       obtain ⟨i, hi, hi'⟩ := hmod a
       have := hsm i hi'
       rw [← hi]; omega
     have h3 := residues_1 l c ⟨by omega, by omega⟩ k3 c 0 (by omega)
     refine Ev.step (fun k => ?_) h3
     have e0 : List.replicate (rd l 0).toNat (0 : Int) = tab c fun a => if a < ((0 : Nat) : Int) then 1099511627776 else 0 := by
      apply List.ext_getElem
      · simp [tab]; omega
      intro j _ _
      simp only [tab, List.getElem_replicate, List.getElem_map, List.getElem_range]
      rw [if_neg (by omega)]
     rw [impl_residues.l0, if_neg (by omega), hg, if_pos (by omega), if_pos (by omega), if_pos (by omega), if_pos (by omega), Option.bind_some, e0, tab_length]
     rfl
   right
   refine ⟨fun h => hg h.2, pre _ (Ev.step (f := fun _ => some ([], false)) (fun k => ?_) (Ev.val rfl))⟩
   rw [impl_residues.l0, if_neg (by omega), if_neg (by omega)]
 right
 refine ⟨fun h => g h.1, ?_⟩
 unfold impl_residues.f
 exact Ev.bind (impl_AreCoins.ev l hl) (Ev.neg g (Ev.val rfl))
def sumZ (f : Nat → Int) : Nat → Int
 | 0 => 0
 | n + 1 => sumZ f n + f n
theorem sumZ_congr {f g : Nat → Int} : ∀ (n : Nat), (∀ r, r < n → f r = g r) → sumZ f n = sumZ g n
 | 0, _ => rfl
 | n + 1, h => by rw [sumZ, sumZ, sumZ_congr n (fun r hr => h r (by omega)), h n (by omega)]
theorem sumZ_upd {f g : Nat → Int} (r0 : Nat) : ∀ (n : Nat), r0 < n → (∀ r, r < n → r ≠ r0 → f r = g r) → sumZ f n + g r0 = sumZ g n + f r0
 | 0, h, _ => absurd h (by omega)
 | n + 1, h, hr => by
  rw [sumZ, sumZ]
  by_cases e : r0 = n
  · subst e
    rw [sumZ_congr r0 (fun r h' => hr r (by omega) (by omega))]; omega
  have := sumZ_upd r0 n (by omega) (fun r h' h'' => hr r (by omega) h'')
  have := hr n (by omega) (fun h => e h.symm)
  omega
theorem sumZ_shift (f : Nat → Int) : ∀ n, sumZ f (n + 1) = f 0 + sumZ (fun r => f (r + 1)) n
 | 0 => by simp [sumZ]
 | n + 1 => by rw [sumZ, sumZ_shift f n, sumZ]; omega
theorem sumZ_map (f : Int → Int) : ∀ T : List Int, (T.map f).sum = sumZ (fun r => f (rd T (r : Int))) T.length
 | [] => rfl
 | x :: T => by
  rw [List.map_cons, List.sum_cons, sumZ_map f T, List.length_cons, sumZ_shift]
  have e0 : rd (x :: T) ((0 : Nat) : Int) = x := by simp [rd]
  rw [e0]
  rfl
/-- No coins are together an amount. -/
def Unp (l : List Int) (a : Int) : Prop := ∀ n, ¬ PayN l n a
theorem unp_iff {l : List Int} (h1 : ∀ x ∈ l, 1 ≤ x) (a : Int) : fewF l (-1) a < 0 ↔ Unp l a := by
 rcases fewF_cases h1 a with ⟨p, h, _, _, e⟩ | ⟨h, e⟩
 · rw [e]; exact ⟨fun q => by omega, fun q => absurd h (q p)⟩
 rw [e]; exact ⟨fun _ => h, fun _ => by omega⟩
theorem payN_app2 {l : List Int} : ∀ (n n' : Nat) (a b : Int), PayN l n a → PayN l n' b → PayN l (n + n') (a + b) := payN_app'
theorem payN_mul2 {l : List Int} {c : Int} (hc : c ∈ l) : ∀ j : Nat, PayN l j (j * c)
 | 0 => by show ((0 : Nat) : Int) * c = 0; simp
 | j + 1 => ⟨c, hc, by rw [show ((j + 1 : Nat) : Int) * c - c = j * c by rw [show ((j + 1 : Nat) : Int) = (j : Int) + 1 by omega, Int.add_mul]; omega]; exact payN_mul2 hc j⟩
/-- Amounts without change are those below the least one of their remainder. -/
theorem unp_least {l T : List Int} (g : coinsB l = true) (hT : Least l T) {a : Int} (h0 : 0 ≤ a) : Unp l a ↔ a < rd T (a % rd l 0) := by
 obtain ⟨c1, c2, c3⟩ := coins_head g
 have m0 := Int.emod_nonneg a (show rd l 0 ≠ 0 by omega)
 have m1 := Int.emod_lt_of_pos a (show 0 < rd l 0 by omega)
 constructor
 · intro h
   apply Classical.byContradiction
   intro hn
   obtain ⟨i, hi⟩ : ∃ i : Nat, (i : Int) = a % rd l 0 := ⟨(a % rd l 0).toNat, Int.toNat_of_nonneg m0⟩
   rw [← hi] at hn
   obtain ⟨⟨n, p1⟩, p2, p3⟩ := hT.pay i (by omega)
   replace p2 := p2.trans hi
   obtain ⟨t, ht⟩ : ∃ t, t = rd T (i : Int) := ⟨_, rfl⟩
   rw [← ht] at p1 p2 p3 hn
   have hd : (a - t) % rd l 0 = 0 := by rw [Int.sub_emod, p2, Int.sub_self, Int.zero_emod]
   have he := Int.mul_ediv_add_emod (a - t) (rd l 0)
   rw [hd] at he
   have hq : 0 ≤ (a - t) / rd l 0 := Int.ediv_nonneg (by omega) (by omega)
   have p4 := payN_mul2 c3 ((a - t) / rd l 0).toNat
   rw [Int.toNat_of_nonneg hq, Int.mul_comm] at p4
   have := payN_app2 _ _ _ _ p1 p4
   rw [show t + rd l 0 * ((a - t) / rd l 0) = a by omega] at this
   exact h _ this
 intro h n hn
 have := hT.le n a hn
 omega
theorem least_form {l T : List Int} (g : coinsB l = true) (hT : Least l T) {r : Nat} (hr : (r : Int) < rd l 0) : rd T (r : Int) = rd l 0 * (rd T (r : Int) / rd l 0) + r ∧ 0 ≤ rd T (r : Int) / rd l 0 := by
 obtain ⟨c1, c2, c3⟩ := coins_head g
 obtain ⟨_, p2, p3⟩ := hT.pay r hr
 have := Int.mul_ediv_add_emod (rd T (r : Int)) (rd l 0)
 rw [p2] at this
 exact ⟨this.symm, Int.ediv_nonneg p3 (by omega)⟩
open Classical in
noncomputable def unpL (l : List Int) (N : Nat) : List Int := (rg 0 N).filter fun a => decide (fewF l (-1) a < 0)
theorem mem_unpL {l : List Int} (h1 : ∀ x ∈ l, 1 ≤ x) {N : Nat} {a : Int} : a ∈ unpL l N ↔ (0 ≤ a ∧ a < N) ∧ Unp l a := by
 unfold unpL
 rw [List.mem_filter, decide_eq_true_eq, mem_rg, unp_iff h1]
 constructor
 · rintro ⟨⟨h1, h2⟩, h3⟩; exact ⟨⟨by omega, by omega⟩, h3⟩
 rintro ⟨⟨h1, h2⟩, h3⟩; exact ⟨⟨by omega, by omega⟩, h3⟩
/-- Of each remainder, how many are below a bound. -/
def capF (t : Nat → Int) (q : Int) (r0 r : Nat) : Int := if t r < (if r < r0 then q + 1 else q) then t r else (if r < r0 then q + 1 else q)
/-- How many there are. -/
theorem unp_count {l T : List Int} (g : coinsB l = true) (hT : Least l T) (c : Nat) (hc : (c : Int) = rd l 0) : ∀ (q r0 : Nat), r0 ≤ c → ((unpL l (c * q + r0)).length : Int) = sumZ (capF (fun r => rd T (r : Int) / rd l 0) q r0) c := by
 have h1 : ∀ x ∈ l, 1 ≤ x := fun x hx => ((coins_facts g).2.2.1 x hx).1
 have hstep : ∀ (q r0 : Nat), r0 < c → ((unpL l (c * q + r0)).length : Int) = sumZ (capF (fun r => rd T (r : Int) / rd l 0) q r0) c → ((unpL l (c * q + (r0 + 1))).length : Int) = sumZ (capF (fun r => rd T (r : Int) / rd l 0) q (r0 + 1)) c := by
  intro q r0 hr ih
  obtain ⟨hf, ht0⟩ := least_form g hT (r := r0) (by omega)
  have hu := sumZ_upd (f := capF (fun r => rd T (r : Int) / rd l 0) q r0) (g := capF (fun r => rd T (r : Int) / rd l 0) q (r0 + 1)) r0 c hr (fun r _ hne => by
   unfold capF
   by_cases d : r < r0
   · rw [if_pos d, if_pos (show r < r0 + 1 by omega)]
   rw [if_neg d, if_neg (show ¬ r < r0 + 1 by omega)])
  have v1 : capF (fun r => rd T (r : Int) / rd l 0) q r0 r0 = if rd T (r0 : Int) / rd l 0 < (q : Int) then rd T (r0 : Int) / rd l 0 else q := by unfold capF; rw [if_neg (show ¬ r0 < r0 by omega)]
  have v2 : capF (fun r => rd T (r : Int) / rd l 0) q (r0 + 1) r0 = if rd T (r0 : Int) / rd l 0 < (q : Int) + 1 then rd T (r0 : Int) / rd l 0 else (q : Int) + 1 := by unfold capF; rw [if_pos (show r0 < r0 + 1 by omega)]
  rw [v1, v2] at hu
  clear v1 v2
  generalize sumZ (capF (fun r => rd T (r : Int) / rd l 0) q (r0 + 1)) c = S2 at hu ⊢
  generalize sumZ (capF (fun r => rd T (r : Int) / rd l 0) q r0) c = S1 at hu ih
  have hsn : unpL l (c * q + (r0 + 1)) = unpL l (c * q + r0) ++ (if fewF l (-1) (((c * q + r0 : Nat) : Int)) < 0 then [((c * q + r0 : Nat) : Int)] else []) := by
   unfold unpL
   rw [show c * q + (r0 + 1) = (c * q + r0) + 1 by omega, rg_snoc, List.filter_append, Nat.zero_add]
   congr 1
   by_cases d : fewF l (-1) (((c * q + r0 : Nat) : Int)) < 0
   · rw [if_pos d, List.filter_cons, if_pos (decide_eq_true d)]; rfl
   rw [if_neg d, List.filter_cons, if_neg (by rw [decide_eq_false d]; decide)]; rfl
  have hN : ((c * q + r0 : Nat) : Int) = rd l 0 * q + r0 := by rw [Int.natCast_add, Int.natCast_mul, hc]
  have hm : ((c * q + r0 : Nat) : Int) % rd l 0 = r0 := by
   rw [hN, Int.add_comm, Int.add_mul_emod_self_left]
   exact Int.emod_eq_of_lt (by omega) (by omega)
  have hiff : fewF l (-1) (((c * q + r0 : Nat) : Int)) < 0 ↔ (q : Int) < rd T (r0 : Int) / rd l 0 := by
   rw [unp_iff h1, unp_least g hT (by omega), hm, hN]
   obtain ⟨t, ht⟩ : ∃ t, t = rd T (r0 : Int) / rd l 0 := ⟨_, rfl⟩
   rw [← ht] at hf ⊢
   rw [hf]
   have hc1 := (coins_head g).1
   constructor
   · intro h
     have h2 : rd l 0 * (q : Int) < rd l 0 * t := by omega
     exact Int.lt_of_mul_lt_mul_left h2 (by omega)
   intro h
   have := Int.mul_lt_mul_of_pos_left h (show 0 < rd l 0 by omega)
   omega
  rw [hsn, List.length_append]
  generalize fewF l (-1) (((c * q + r0 : Nat) : Int)) = ff at hiff ⊢
  generalize rd T (r0 : Int) / rd l 0 = t at hu hiff
  by_cases d : ff < 0
  · have hq := hiff.1 d
    rw [if_pos d]
    rw [if_neg (show ¬ t < (q : Int) by omega), if_neg (show ¬ t < (q : Int) + 1 by omega)] at hu
    simp only [List.length_cons, List.length_nil]; omega
  have hq : ¬ (q : Int) < t := fun h => d (hiff.2 h)
  rw [if_neg d]
  simp only [List.length_nil]
  by_cases e : t < (q : Int)
  · rw [if_pos e, if_pos (show t < (q : Int) + 1 by omega)] at hu; omega
  rw [if_neg e, if_pos (show t < (q : Int) + 1 by omega)] at hu; omega
 have row : ∀ (q : Nat), ((unpL l (c * q + 0)).length : Int) = sumZ (capF (fun r => rd T (r : Int) / rd l 0) q 0) c → ∀ r0, r0 ≤ c → ((unpL l (c * q + r0)).length : Int) = sumZ (capF (fun r => rd T (r : Int) / rd l 0) q r0) c := by
  intro q hq r0
  induction r0 with
  | zero => intro _; exact hq
  | succ r0 ih => intro h; exact hstep q r0 (by omega) (ih (by omega))
 intro q
 induction q with
 | zero =>
  refine row 0 ?_
  have e0 : unpL l (c * 0 + 0) = [] := by simp [unpL, rg]
  rw [e0]
  have : ∀ n, n ≤ c → sumZ (capF (fun r => rd T (r : Int) / rd l 0) ((0 : Nat) : Int) 0) n = 0 := by
   intro n
   induction n with
   | zero => intro _; rfl
   | succ n ih =>
    intro h
    have := (least_form g hT (r := n) (by omega)).2
    rw [sumZ, ih (by omega)]
    unfold capF
    dsimp only
    rw [if_neg (show ¬ n < 0 by omega), if_neg (by omega)]; rfl
  rw [this c (Nat.le_refl _)]; rfl
 | succ q ih =>
  refine row (q + 1) ?_
  have h := ih c (Nat.le_refl _)
  rw [show c * (q + 1) + 0 = c * q + c by rw [Nat.mul_succ]; omega, h]
  refine sumZ_congr c (fun r hr => ?_)
  unfold capF
  rw [if_pos hr, if_neg (show ¬ r < 0 by omega)]
  rfl
theorem maxF_facts : ∀ (s : List Int) (m : Int), m ≤ maxF s m ∧ (∀ x ∈ s, x ≤ maxF s m) ∧ maxF s m ∈ m :: s
 | [], m => by simp [maxF]
 | x :: s, m => by
  obtain ⟨h1, h2, h3⟩ := maxF_facts s (mx m x)
  have e : mx m x = if m < x then x else m := rfl
  refine ⟨?_, fun y hy => ?_, ?_⟩
  · show m ≤ maxF s (mx m x)
    split at e <;> omega
  · show y ≤ maxF s (mx m x)
    rcases List.mem_cons.1 hy with q | q
    · split at e <;> omega
    exact h2 y q
  show maxF s (mx m x) ∈ m :: x :: s
  rcases List.mem_cons.1 h3 with q | q
  · rw [q, e]; split <;> simp
  simp [q]
theorem rd_lastL {l : List Int} (h : risesB l = true) (hne : l ≠ []) : (∀ x ∈ l, x ≤ rd l ((l.length : Int) - 1)) ∧ rd l ((l.length : Int) - 1) ∈ l := by
 cases l with
 | nil => exact absurd rfl hne
 | cons x s =>
  have e : (((x :: s).length : Nat) : Int) - 1 = (s.length : Int) := by simp
  rw [e, rd_last x s]
  exact ⟨risesB_last h (by simp), List.getLast_mem _⟩
/-- What is unpaid, in order. -/
noncomputable def unpU (l : List Int) : List Int := unpL l (rd l 0 * rd l ((l.length : Int) - 1) + 1).toNat
/-- The greatest amount without change. -/
structure Great (l : List Int) (m : Int) : Prop where
 ge : -1 ≤ m
 le : m ≤ 1000000
 top : ∀ a, 0 ≤ a → Unp l a → a ≤ m
 mem : 0 ≤ m → Unp l m
 u : ∀ a, a ∈ unpU l ↔ 0 ≤ a ∧ Unp l a
theorem least_bound {l T : List Int} (g : coinsB l = true) (hg : gcdL l 0 = 1) (hT : Least l T) {r : Nat} (hr : (r : Int) < rd l 0) : rd T (r : Int) ≤ (rd l 0 - 1) * rd l ((l.length : Int) - 1) := by
 have hf := coins_facts g
 obtain ⟨c1, c2, c3⟩ := coins_head g
 have hne : l ≠ [] := fun e => by rw [e] at hf; simp at hf
 obtain ⟨hM, hMm⟩ := rd_lastL hf.2.2.2 hne
 have hM0 := hf.2.2.1 _ hMm
 obtain ⟨k, p, h2, h3, h4⟩ := res_small c1 (fun x hx => by have := (hf.2.2.1 x hx).1; omega) hM (by omega) hg r hr
 have := hT.le k p h2
 rw [h3] at this; omega
theorem great_of {l T : List Int} (g : coinsB l = true) (hg : gcdL l 0 = 1) (hT : Least l T) : Great l (maxF (T.drop 1) (rd T 0) - rd l 0) := by
 have hf := coins_facts g
 obtain ⟨c1, c2, c3⟩ := coins_head g
 have h1 : ∀ x ∈ l, 1 ≤ x := fun x hx => (hf.2.2.1 x hx).1
 have hne : l ≠ [] := fun e => by rw [e] at hf; simp at hf
 obtain ⟨hM, hMm⟩ := rd_lastL hf.2.2.2 hne
 have hMb := hf.2.2.1 _ hMm
 have hlen := hT.len
 obtain ⟨m1, m2, m3⟩ := maxF_facts (T.drop 1) (rd T 0)
 obtain ⟨X, hX⟩ : ∃ X, X = maxF (T.drop 1) (rd T 0) := ⟨_, rfl⟩
 rw [← hX] at m1 m2 m3 ⊢
 have hall : ∀ r : Nat, (r : Int) < rd l 0 → rd T (r : Int) ≤ X := fun r hr => by
  cases r with
  | zero => exact m1
  | succ r =>
   have hb : r + 1 < T.length := by omega
   rw [rd_eq T (r + 1) hb]
   refine m2 _ ?_
   have : T[r + 1] = (T.drop 1)[r]'(by simp; omega) := by simp [Nat.add_comm]
   rw [this]; exact List.getElem_mem _
 have hex : ∃ r : Nat, (r : Int) < rd l 0 ∧ rd T (r : Int) = X := by
  rcases List.mem_cons.1 m3 with e | e
  · exact ⟨0, by omega, e.symm⟩
  obtain ⟨i, hi, he⟩ := List.getElem_of_mem e
  have hi' : i < T.length - 1 := by simpa using hi
  refine ⟨i + 1, by omega, ?_⟩
  rw [rd_eq T (i + 1) (by omega), ← he]
  simp [Nat.add_comm]
 have hmod : ∀ a : Int, ∃ i : Nat, (i : Int) = a % rd l 0 ∧ (i : Int) < rd l 0 := fun a => by
  have q0 := Int.emod_nonneg a (show rd l 0 ≠ 0 by omega)
  have q1 := Int.emod_lt_of_pos a (show 0 < rd l 0 by omega)
  exact ⟨(a % rd l 0).toNat, Int.toNat_of_nonneg q0, by rw [Int.toNat_of_nonneg q0]; exact q1⟩
 have key : ∀ (i : Nat) (a : Int), (i : Int) = a % rd l 0 → (i : Int) < rd l 0 → a < rd T (i : Int) → a ≤ rd T (i : Int) - rd l 0 := fun i a hi hi' hlt => by
  obtain ⟨e1, e2⟩ := least_form g hT hi'
  have e3 := Int.mul_ediv_add_emod a (rd l 0)
  rw [← hi] at e3
  obtain ⟨t, ht⟩ : ∃ t, t = rd T (i : Int) / rd l 0 := ⟨_, rfl⟩
  obtain ⟨s, hs⟩ : ∃ s, s = a / rd l 0 := ⟨_, rfl⟩
  rw [← ht] at e1
  rw [← hs] at e3
  have : s < t := Int.lt_of_mul_lt_mul_left (show rd l 0 * s < rd l 0 * t by omega) (by omega)
  have := Int.mul_le_mul_of_nonneg_left (show s + 1 ≤ t by omega) (show 0 ≤ rd l 0 by omega)
  rw [Int.mul_add, Int.mul_one] at this
  omega
 obtain ⟨r, hr, hrX⟩ := hex
 have hXb := least_bound g hg hT hr
 rw [hrX] at hXb
 obtain ⟨M, hM'⟩ : ∃ M, M = rd l ((l.length : Int) - 1) := ⟨_, rfl⟩
 rw [← hM'] at hXb hMb
 have hp0 : (rd l 0 - 1) * M ≤ 999 * 1000 := Int.le_trans (Int.mul_le_mul_of_nonneg_right (show rd l 0 - 1 ≤ 999 by omega) (by omega)) (Int.mul_le_mul_of_nonneg_left (by omega) (by omega))
 have htop : ∀ a, 0 ≤ a → Unp l a → a ≤ X - rd l 0 := fun a h0 h => by
  obtain ⟨i, hi, hi'⟩ := hmod a
  have hu := (unp_least g hT h0).1 h
  rw [← hi] at hu
  have := key i a hi hi' hu
  have := hall i hi'
  omega
 refine ⟨?_, by omega, htop, fun h0 => ?_, fun a => ?_⟩
 · -- the last remainder
   obtain ⟨e1, e2⟩ := least_form g hT (r := (rd l 0 - 1).toNat) (by omega)
   have e3 := Int.mul_nonneg (show 0 ≤ rd l 0 by omega) e2
   have hl := hall (rd l 0 - 1).toNat (by omega)
   omega
 · rw [unp_least g hT h0]
   have e4 : (X - rd l 0) % rd l 0 = (r : Int) := by
    obtain ⟨_, p2, _⟩ := hT.pay r hr
    rw [hrX] at p2
    rw [Int.sub_emod, p2, Int.emod_self, Int.sub_zero]
    exact Int.emod_eq_of_lt (by omega) hr
   rw [e4, hrX]; omega
 unfold unpU
 rw [mem_unpL h1, ← hM']
 have hp1 : 0 ≤ rd l 0 * M := Int.mul_nonneg (by omega) (by omega)
 have hp2 : (rd l 0 - 1) * M = rd l 0 * M - M := by rw [Int.sub_mul, Int.one_mul]
 refine ⟨fun h => ⟨h.1.1, h.2⟩, fun h => ⟨⟨h.1, ?_⟩, h.2⟩⟩
 have := htop a h.1 h.2
 rw [Int.toNat_of_nonneg (by omega)]; omega
theorem capF_eq {t : Nat → Int} {q : Int} {r0 r : Nat} (h : t r ≤ q) : capF t q r0 r = t r := by
 unfold capF
 by_cases d : r < r0
 · rw [if_pos d, if_pos (by omega)]
 rw [if_neg d]
 by_cases e : t r < q
 · rw [if_pos e]
 rw [if_neg e]; omega
theorem unp_total {l T : List Int} (g : coinsB l = true) (hg : gcdL l 0 = 1) (hT : Least l T) : ((unpU l).length : Int) = (T.map fun x => x / rd l 0).sum := by
 have hf := coins_facts g
 obtain ⟨c1, c2, c3⟩ := coins_head g
 have hne : l ≠ [] := fun e => by rw [e] at hf; simp at hf
 obtain ⟨hM, hMm⟩ := rd_lastL hf.2.2.2 hne
 have hMb := hf.2.2.1 _ hMm
 have hlen := hT.len
 have hb := fun (r : Nat) => least_bound g hg hT (r := r)
 unfold unpU
 obtain ⟨M, hM'⟩ : ∃ M, M = rd l ((l.length : Int) - 1) := ⟨_, rfl⟩
 rw [← hM'] at hMb hb ⊢
 obtain ⟨c, hc⟩ : ∃ c : Nat, (c : Int) = rd l 0 := ⟨(rd l 0).toNat, Int.toNat_of_nonneg (by omega)⟩
 have hN : (rd l 0 * M + 1).toNat = c * M.toNat + 1 := by
  have : ((c * M.toNat + 1 : Nat) : Int) = rd l 0 * M + 1 := by rw [Int.natCast_add, Int.natCast_mul, hc, Int.toNat_of_nonneg (by omega)]; rfl
  omega
 rw [hN, unp_count g hT c hc M.toNat 1 (by omega), sumZ_map, show T.length = c by omega]
 refine sumZ_congr c (fun r hr => ?_)
 obtain ⟨e1, e2⟩ := least_form g hT (r := r) (by omega)
 have h3 := hb r (by omega)
 refine capF_eq ?_
 obtain ⟨t, ht⟩ : ∃ t, t = rd T (r : Int) / rd l 0 := ⟨_, rfl⟩
 rw [← ht] at e1 e2 ⊢
 have h4 : rd l 0 * t ≤ rd l 0 * (M - 1) + (rd l 0 - M) := by
  rw [Int.mul_sub, Int.mul_one]
  rw [Int.sub_mul, Int.one_mul] at h3
  omega
 rw [Int.toNat_of_nonneg (by omega)]
 apply Classical.byContradiction
 intro hn
 have := Int.mul_le_mul_of_nonneg_left (show M + 1 ≤ t by omega) (show 0 ≤ rd l 0 by omega)
 rw [Int.mul_add, Int.mul_one] at this
 rw [Int.mul_sub, Int.mul_one] at h4
 omega
theorem impl_GreatestUnpaid.ev (l : List Int) (hl : l.length ≤ 9223372036854775806) : (coinsB l = true ∧ gcdL l 0 = 1 ∧ ∃ m, Great l m ∧ Ev (fun k => impl_GreatestUnpaid.f k l) (m, true)) ∨ (¬ (coinsB l = true ∧ gcdL l 0 = 1) ∧ Ev (fun k => impl_GreatestUnpaid.f k l) (0, false)) := by
 unfold impl_GreatestUnpaid.f
 rcases impl_residues.ev l hl with ⟨g, hg, T, hT, hE⟩ | ⟨hn, hE⟩
 · left
   have hf := coins_facts g
   obtain ⟨c1, c2, c3⟩ := coins_head g
   have hG := great_of g hg hT
   have hlen := hT.len
   refine ⟨g, hg, _, hG, Ev.bind hE (Ev.pos rfl (Ev.bindc (x := maxF (T.drop 1) (rd T 0)) ?_ (Ev.pos (by omega) (Ev.val ?_))))⟩
   · unfold slices_Max_int_int.f; rw [if_pos (show 0 < T.length by omega)]
   have h2 := hG.ge
   have h3 := hG.le
   rw [w64 (by omega) (by omega)]
 exact .inr ⟨hn, Ev.bind hE (Ev.neg (by decide) (Ev.val rfl))⟩
theorem impl_CountUnpaid.ev_l (l : List Int) (b : Bool) (c1 : 1 ≤ rd l 0) (hl : 0 < l.length) : ∀ (s q : List Int) (a : Int), (q ++ s).length ≤ 1000 → (∀ x ∈ s, 0 ≤ x ∧ x ≤ 1000000) → 0 ≤ a → a ≤ 1000000 * q.length → Ev (fun k => impl_CountUnpaid.l0 k l b a (q ++ s) ((q ++ s).length : Int) (q.length : Int)) (a + (s.map fun x => x / rd l 0).sum, b)
 | [], q, a, h, _, _, _ => Ev.step (f := fun _ => some (a, b)) (fun k => by rw [impl_CountUnpaid.l0, if_neg (by simp)]) (Ev.val (by simp))
 | x :: s, q, a, h, hs, h0, h2 => by
  have hll : q.length + (s.length + 1) ≤ 1000 := by simpa using h
  have hx := hs x (by simp)
  have ew : wrap64 ((q.length : Int) + 1) = ((q ++ [x]).length : Int) := by rw [w64 (by omega) (by omega)]; simp
  have e1 : Int.tdiv x (rd l 0) = x / rd l 0 := Int.tdiv_eq_ediv_of_nonneg hx.1
  have e2 : 0 ≤ x / rd l 0 := Int.ediv_nonneg hx.1 (by omega)
  have e3 : x / rd l 0 ≤ x := Int.ediv_le_self _ hx.1
  have ih := impl_CountUnpaid.ev_l l b c1 hl s (q ++ [x]) (a + x / rd l 0) (by simpa using h) (fun y hy => hs y (by simp [hy])) (by omega) (by simp; omega)
  rw [List.append_assoc, List.singleton_append, ← ew] at ih
  refine Ev.step (fun k => ?_) (Ev.eq ih (by rw [List.map_cons, List.sum_cons]; congr 1; omega))
  rw [impl_CountUnpaid.l0, if_pos (by simp <;> omega), if_pos (by omega), if_pos (by simp <;> omega), if_pos (by omega), if_neg (by omega), rd_app, e1, w64 (n := x / rd l 0) (by omega) (by omega), w64 (n := a + x / rd l 0) (by omega) (by omega)]
theorem impl_CountUnpaid.ev (l : List Int) (hl : l.length ≤ 9223372036854775806) : Ev (fun k => impl_CountUnpaid.f k l) (open Classical in if coinsB l = true ∧ gcdL l 0 = 1 then (((unpU l).length : Int), true) else (0, false)) := by
 unfold impl_CountUnpaid.f
 rcases impl_residues.ev l hl with ⟨g, hg, T, hT, hE⟩ | ⟨hn, hE⟩
 · have hf := coins_facts g
   obtain ⟨c1, c2, c3⟩ := coins_head g
   have hlen := hT.len
   have hne : l ≠ [] := fun e => by rw [e] at hf; simp at hf
   obtain ⟨hM, hMm⟩ := rd_lastL hf.2.2.2 hne
   have hMb := hf.2.2.1 _ hMm
   have h3 := impl_CountUnpaid.ev_l l true c1 (by omega) T [] 0 (by simp; omega) (fun x hx => by
    obtain ⟨i, hi, rfl⟩ := List.getElem_of_mem hx
    have p := hT.pay i (by omega)
    have q := least_bound g hg hT (r := i) (by omega)
    rw [rd_eq T i hi] at p q
    have hp0 : (rd l 0 - 1) * rd l ((l.length : Int) - 1) ≤ 999 * 1000 := Int.le_trans (Int.mul_le_mul_of_nonneg_right (show rd l 0 - 1 ≤ 999 by omega) (by omega)) (Int.mul_le_mul_of_nonneg_left (by omega) (by omega))
    have := p.2.2
    omega) (by omega) (by simp)
   refine Ev.bind hE (Ev.eq h3 ?_)
   rw [if_pos ⟨g, hg⟩, unp_total g hg hT, Int.zero_add]
 refine Ev.bind hE (Ev.step (f := fun _ => some (0, false)) (fun k => by rw [impl_CountUnpaid.l0, if_neg (by simp)]) (Ev.val ?_))
 rw [if_neg hn]
theorem spec_cnUnpaid.ev_l (l : List Int) (f : Int → Int) (hff : f = fewF l (-1)) (N : Nat) (hN : N ≤ 10000001) : ∀ (d i : Nat) (acc : List Int), i + d = N → acc.length ≤ i → Ev (fun k => spec_cnUnpaid.l0 k acc (tab N f) (N : Int) (i : Int)) (acc ++ (rg i d).filter fun a => decide (fewF l (-1) a < 0))
 | 0, i, acc, h, ha => Ev.step (f := fun _ => some acc) (fun k => by rw [spec_cnUnpaid.l0, if_neg (by omega)]) (Ev.val (by simp [rg]))
 | d + 1, i, acc, h, ha => by
  have ew : wrap64 ((i : Int) + 1) = ((i + 1 : Nat) : Int) := by rw [w64 (by omega) (by omega)]; omega
  by_cases c : f (i : Int) < 0
  · have ih := spec_cnUnpaid.ev_l l f hff N hN d (i + 1) (acc ++ [(i : Int)]) (by omega) (by simp; omega)
    refine Ev.step (f := fun k => spec_cnUnpaid.l0 k (acc ++ [(i : Int)]) (tab N f) (N : Int) ((i + 1 : Nat) : Int)) (fun k => ?_) (Ev.eq ih ?_)
    · rw [spec_cnUnpaid.l0, if_pos (by omega), if_pos (by omega), if_pos (by rw [tab_length]; omega), rd_tab _ _ _ (by omega) (by omega), if_pos c, if_pos (by omega), ew]
    rw [rg_succ, List.filter_cons, if_pos (by rw [← hff]; exact decide_eq_true c)]; simp
  have ih := spec_cnUnpaid.ev_l l f hff N hN d (i + 1) acc (by omega) (by omega)
  refine Ev.step (f := fun k => spec_cnUnpaid.l0 k acc (tab N f) (N : Int) ((i + 1 : Nat) : Int)) (fun k => ?_) (Ev.eq ih ?_)
  · rw [spec_cnUnpaid.l0, if_pos (by omega), if_pos (by omega), if_pos (by rw [tab_length]; omega), rd_tab _ _ _ (by omega) (by omega), if_neg c, ew]
  rw [rg_succ, List.filter_cons, if_neg (by rw [← hff, decide_eq_false c]; decide)]
theorem spec_cnUnpaid.ev (l : List Int) (g : coinsB l = true) : Ev (fun k => spec_cnUnpaid.f k l) (unpU l) := by
 have hf := coins_facts g
 obtain ⟨c1, c2, c3⟩ := coins_head g
 have hne : l ≠ [] := fun e => by rw [e] at hf; simp at hf
 obtain ⟨hM, hMm⟩ := rd_lastL hf.2.2.2 hne
 have hMb := hf.2.2.1 _ hMm
 unfold spec_cnUnpaid.f unpU
 rw [w64 (n := (l.length : Int) - 1) (by omega) (by omega)]
 obtain ⟨M, hM'⟩ : ∃ M, M = rd l ((l.length : Int) - 1) := ⟨_, rfl⟩
 rw [← hM'] at hMb ⊢
 have hp0 : 0 ≤ rd l 0 * M := Int.mul_nonneg (by omega) (by omega)
 have hp1 : rd l 0 * M ≤ 1000 * 1000 := Int.le_trans (Int.mul_le_mul_of_nonneg_right (show rd l 0 ≤ 1000 by omega) (by omega)) (Int.mul_le_mul_of_nonneg_left (by omega) (by omega))
 rw [w64 (n := rd l 0 * M) (by omega) (by omega)]
 refine Ev.pos (by omega) (Ev.pos (by omega) (Ev.pos (by omega) (Ev.bind (spec_cnFew.ev l (by omega) (fun x hx => by have := hf.2.2.1 x hx; omega) (rd l 0 * M) (by omega)) ?_)))
 rw [tab_length]
 exact spec_cnUnpaid.ev_l l (fewF l (-1)) rfl _ (by omega) _ 0 [] (by omega) (by simp)
theorem unpU_rises (l : List Int) : (unpU l).Pairwise (fun x y => x < y) := (rg_rises _ _).filter _
theorem spec_GreatestUnpaid.ev (l : List Int) (hl : l.length ≤ 9223372036854775806) : (∀ m, coinsB l = true → gcdL l 0 = 1 → Great l m → Ev (fun k => spec_GreatestUnpaid.f k l) (m, true)) ∧ (¬ (coinsB l = true ∧ gcdL l 0 = 1) → Ev (fun k => spec_GreatestUnpaid.f k l) (0, false)) := by
 have no : Ev (fun k => spec_GreatestUnpaid.j0 k l true) (0, false) := Ev.step (f := fun _ => some (0, false)) (fun k => by rw [spec_GreatestUnpaid.j0, if_pos rfl]) (Ev.val rfl)
 constructor
 · intro m g hg hG
   have hf := coins_facts g
   unfold spec_GreatestUnpaid.f
   refine Ev.bind (spec_cnGood.ev l hl) (Ev.pos g (Ev.bind (spec_cnCommon.ev l (by omega) (fun x hx => by have := (hf.2.2.1 x hx).1; omega)) ?_))
   rw [hg]
   refine Ev.step (f := fun k => (spec_cnUnpaid.f k l).bind fun t446 => (if (t446.length : Int) = 0 then (some ((-1), true)) else (if 0 ≤ (wrap64 ((t446.length : Int) - 1)) then (if (wrap64 ((t446.length : Int) - 1)) < (t446.length : Int) then (some (rd t446 (wrap64 ((t446.length : Int) - 1)), true)) else (none)) else (none)))) (fun k => by rw [show (((1 : Nat) : Int) != 1) = false from rfl, spec_GreatestUnpaid.j0, if_neg (by decide)]) (Ev.bind (spec_cnUnpaid.ev l g) ?_)
   have hu := hG.u
   have hr := unpU_rises l
   have hlen : (unpU l).length ≤ 1000001 := by
    have h8 : unpU l = (rg 0 _).filter _ := rfl
    have : (unpU l).length ≤ (rd l 0 * rd l ((l.length : Int) - 1) + 1).toNat := by
     rw [h8]
     have := List.length_filter_le (fun a => @decide (fewF l (-1) a < 0) ((fewF l (-1) a).decLt 0)) (rg 0 (rd l 0 * rd l ((l.length : Int) - 1) + 1).toNat)
     rw [rg_length] at this
     exact this
    obtain ⟨c1, c2, c3⟩ := coins_head g
    have hne : l ≠ [] := fun e => by rw [e] at hf; simp at hf
    have hMb := hf.2.2.1 _ (rd_lastL hf.2.2.2 hne).2
    have hp1 : rd l 0 * rd l ((l.length : Int) - 1) ≤ 1000 * 1000 := Int.le_trans (Int.mul_le_mul_of_nonneg_right (show rd l 0 ≤ 1000 by omega) (by omega)) (Int.mul_le_mul_of_nonneg_left (by omega) (by omega))
    omega
   generalize unpU l = U at hu hr hlen ⊢
   refine Ev.ite (fun h => Ev.val ?_) (fun h => ?_)
   · have h2 := hG.ge
     by_cases h0 : 0 ≤ m
     · have := (hu m).2 ⟨h0, hG.mem h0⟩
       rw [List.eq_nil_of_length_eq_zero (by omega : U.length = 0)] at this
       cases this
     rw [show m = -1 by omega]
   rw [w64 (n := (U.length : Int) - 1) (by omega) (by omega)]
   refine Ev.pos (by omega) (Ev.pos (by omega) (Ev.val ?_))
   obtain ⟨V, x, rfl⟩ : ∃ V x, U = V ++ [x] := by
    rcases List.eq_nil_or_concat U with e | ⟨V, x, e⟩
    · rw [e] at h; exact absurd rfl h
    exact ⟨V, x, by rw [e, List.concat_eq_append]⟩
   have ex : rd (V ++ [x]) (((V ++ [x]).length : Int) - 1) = x := by
    rw [show (((V ++ [x]).length : Nat) : Int) - 1 = (V.length : Int) by simp]; exact rd_app V x []
   rw [ex]
   have hx := (hu x).1 (by simp)
   have h3 := hG.top x hx.1 hx.2
   have hm := (hu m).2 ⟨by omega, hG.mem (by omega)⟩
   have hpw := (List.pairwise_append.1 hr).2.2
   rcases List.mem_append.1 hm with q | q
   · have := hpw m q x (by simp); exact absurd this (by omega)
   rw [List.mem_singleton.1 q]
 intro hn
 unfold spec_GreatestUnpaid.f
 refine Ev.bind (spec_cnGood.ev l hl) (Ev.ite (fun g => ?_) (fun _ => no))
 have hf := coins_facts g
 refine Ev.bind (spec_cnCommon.ev l (by omega) (fun x hx => by have := (hf.2.2.1 x hx).1; omega)) ?_
 have e : ((((gcdL l 0 : Nat) : Int)) != 1) = true := by
  simp only [bne_iff_ne, ne_eq]
  intro h
  exact hn ⟨g, by omega⟩
 rw [e]; exact no
theorem spec_CountUnpaid.ev (l : List Int) (hl : l.length ≤ 9223372036854775806) : Ev (fun k => spec_CountUnpaid.f k l) (open Classical in if coinsB l = true ∧ gcdL l 0 = 1 then (((unpU l).length : Int), true) else (0, false)) := by
 unfold spec_CountUnpaid.f
 refine Ev.bind (spec_cnGood.ev l hl) (Ev.ite (fun g => ?_) (fun g => Ev.val (by rw [if_neg (fun h => g h.1)])))
 have hf := coins_facts g
 refine Ev.bind (spec_cnCommon.ev l (by omega) (fun x hx => by have := (hf.2.2.1 x hx).1; omega)) (Ev.ite (fun h => ?_) (fun h => Ev.val ?_))
 · exact Ev.bind (spec_cnUnpaid.ev l g) (Ev.val (by rw [if_pos ⟨g, by omega⟩]))
 rw [if_neg (fun q => h (by rw [q.2]; rfl))]
/-- The coins from a place on that the others can pay. -/
noncomputable def ndl (l : List Int) : Nat → Nat → List Int
 | _, 0 => []
 | i, d + 1 => (if 0 ≤ fewF (l.eraseIdx i) (-1) (rd l (i : Int)) then [rd l (i : Int)] else []) ++ ndl l (i + 1) d
theorem mem_ndl (l : List Int) (x : Int) : ∀ (d i : Nat), x ∈ ndl l i d ↔ ∃ j, i ≤ j ∧ j < i + d ∧ x = rd l (j : Int) ∧ 0 ≤ fewF (l.eraseIdx j) (-1) (rd l (j : Int))
 | 0, i => by
  constructor
  · intro h; cases h
  rintro ⟨j, h1, h2, _⟩; omega
 | d + 1, i => by
  rw [ndl, List.mem_append, mem_ndl l x d (i + 1)]
  constructor
  · rintro (h | ⟨j, h1, h2, h3⟩)
    · by_cases c : 0 ≤ fewF (l.eraseIdx i) (-1) (rd l (i : Int))
      · rw [if_pos c] at h
        exact ⟨i, by omega, by omega, List.mem_singleton.1 h, c⟩
      rw [if_neg c] at h; cases h
    exact ⟨j, by omega, by omega, h3⟩
  rintro ⟨j, h1, h2, h3, h4⟩
  by_cases e : j = i
  · subst e; left; rw [if_pos h4, h3]; simp
  right; exact ⟨j, by omega, by omega, h3, h4⟩
theorem rd_lt {l : List Int} (h : l.Pairwise (fun x y => x < y)) {i j : Nat} (hij : i < j) (hj : j < l.length) : rd l (i : Int) < rd l (j : Int) := by
 rw [rd_eq l i (by omega), rd_eq l j hj]
 exact List.pairwise_iff_getElem.1 h i j (by omega) hj hij
theorem ndl_rises {l : List Int} (h : l.Pairwise (fun x y => x < y)) : ∀ (d i : Nat), i + d ≤ l.length → (ndl l i d).Pairwise (fun x y => x < y)
 | 0, i, _ => List.Pairwise.nil
 | d + 1, i, hi => by
  rw [ndl, List.pairwise_append]
  refine ⟨by split <;> simp, ndl_rises h d (i + 1) (by omega), fun x hx y hy => ?_⟩
  split at hx
  · rw [List.mem_singleton.1 hx]
    obtain ⟨j, h1, h2, h3, _⟩ := (mem_ndl l y d (i + 1)).1 hy
    rw [h3]; exact rd_lt h (by omega) (by omega)
  cases hx
theorem ndl_length (l : List Int) : ∀ (d i : Nat), (ndl l i d).length ≤ d
 | 0, i => Nat.le_refl _
 | d + 1, i => by
  have := ndl_length l d (i + 1)
  rw [ndl, List.length_append]
  split <;> simp <;> omega
theorem without_val (l : List Int) (i : Nat) (h : i < l.length) (hl : l.length ≤ 1000000) : impl_without.f l (i : Int) = some (l.eraseIdx i) := by
 unfold impl_without.f
 rw [if_pos (by omega), if_pos (by omega), if_pos hl, Int.toNat_natCast]
theorem erase_coins {l : List Int} (h1 : ∀ x ∈ l, 1 ≤ x ∧ x ≤ 1000) (i : Nat) : ∀ x ∈ l.eraseIdx i, 1 ≤ x ∧ x ≤ 1000 := fun x hx => h1 x (List.mem_of_mem_eraseIdx hx)
theorem impl_NeedlessCoins.ev_l (l : List Int) (hl : l.length ≤ 8) (h1 : ∀ x ∈ l, 1 ≤ x ∧ x ≤ 1000) : ∀ (d i : Nat) (acc : List Int), i + d = l.length → acc.length ≤ i → Ev (fun k => impl_NeedlessCoins.l0 k l acc l (l.length : Int) (i : Int)) (acc ++ ndl l i d, true)
 | 0, i, acc, h, ha => Ev.step (f := fun _ => some (acc, true)) (fun k => by rw [impl_NeedlessCoins.l0, if_neg (by omega)]) (Ev.val (by simp [ndl]))
 | d + 1, i, acc, h, ha => by
  have hi : i < l.length := by omega
  have ew : wrap64 ((i : Int) + 1) = ((i + 1 : Nat) : Int) := by rw [w64 (by omega) (by omega)]; omega
  have hc : 1 ≤ rd l (i : Int) ∧ rd l (i : Int) ≤ 1000 := by rw [rd_eq l i hi]; exact h1 _ (List.getElem_mem hi)
  have he := erase_coins h1 i
  have hel : (l.eraseIdx i).length ≤ 1000 := by have := List.length_eraseIdx_le l i; omega
  obtain ⟨c, hcc⟩ : ∃ c, c = rd l (i : Int) := ⟨_, rfl⟩
  have hfew := impl_fewStamps.ev (l.eraseIdx i) hel (fun x hx => by have := he x hx; omega) c (by omega)
  have ihp := impl_NeedlessCoins.ev_l l hl h1 d (i + 1) (acc ++ [c]) (by omega) (by simp; omega)
  have ihn := impl_NeedlessCoins.ev_l l hl h1 d (i + 1) acc (by omega) (by omega)
  have hcond : (rd (tab (c + 1).toNat (fewF (l.eraseIdx i) (c + 1))) c ≤ c ↔ 0 ≤ fewF (l.eraseIdx i) (-1) c) := by
   rw [rd_tab _ _ _ (by omega) (by omega)]
   rcases fewF_cases (fun x hx => (he x hx).1) c with ⟨p, _, _, hp, e⟩ | ⟨_, e⟩
   · rw [e, e]; exact ⟨fun _ => by omega, fun _ => hp⟩
   rw [e, e]; exact ⟨fun q => by omega, fun q => by omega⟩
  have htl : ((tab (c + 1).toNat (fewF (l.eraseIdx i) (c + 1))).length : Int) = c + 1 := by rw [tab_length]; omega
  refine Ev.step (f := fun k => (impl_fewStamps.f k (l.eraseIdx i) c).bind fun t469 => (if 0 ≤ c then (if c < (t469.length : Int) then (if (rd t469 c) ≤ c then (if acc.length < 17592186044416 then (impl_NeedlessCoins.l0 k l (acc ++ [c]) l (l.length : Int) ((i + 1 : Nat) : Int)) else (none)) else (impl_NeedlessCoins.l0 k l acc l (l.length : Int) ((i + 1 : Nat) : Int))) else (none)) else (none))) (fun k => ?_) (Ev.bind hfew (Ev.pos (by omega) (Ev.pos (by omega) ?_)))
  · rw [impl_NeedlessCoins.l0, if_pos (by omega), if_pos (by omega), if_pos (by omega), without_val l i hi (by omega), Option.bind_some, ← hcc, ew]
  rw [ndl, ← hcc]
  by_cases q : 0 ≤ fewF (l.eraseIdx i) (-1) c
  · rw [if_pos q]
    exact Ev.pos (hcond.2 q) (Ev.pos (by omega) (Ev.eq ihp (by simp)))
  rw [if_neg q]
  exact Ev.neg (fun h => q (hcond.1 h)) (Ev.eq ihn (by simp))
open Classical in
noncomputable def needB (l : List Int) : List Int × Bool := if coinsB l = true then (ndl l 0 l.length, true) else ([], false)
theorem impl_NeedlessCoins.ev (l : List Int) (hl : l.length ≤ 9223372036854775806) : Ev (fun k => impl_NeedlessCoins.f k l) (needB l) := by
 unfold impl_NeedlessCoins.f
 refine Ev.bind (impl_AreCoins.ev l hl) (Ev.ite (fun g => ?_) (fun g => Ev.val (by rw [needB, if_neg g])))
 have hf := coins_facts g
 exact Ev.eq (impl_NeedlessCoins.ev_l l hf.2.1 hf.2.2.1 l.length 0 [] (by omega) (by simp)) (by rw [needB, if_pos g]; rfl)
theorem own_val (l : List Int) (hl : l.length ≤ 1000000) : spec_l1Own.f l = some l := by
 unfold spec_l1Own.f
 rw [Option.bind_some, if_pos (by simp <;> omega)]; rfl
theorem spec_NeedlessCoins.ev_l (l : List Int) (hl : l.length ≤ 8) (h1 : ∀ x ∈ l, 1 ≤ x ∧ x ≤ 1000) : ∀ (d i : Nat) (acc : List Int), i + d = l.length → acc.length ≤ i → Ev (fun k => spec_NeedlessCoins.l0 k l acc l (l.length : Int) (i : Int)) (acc ++ ndl l i d, true)
 | 0, i, acc, h, ha => Ev.step (f := fun _ => some (acc, true)) (fun k => by rw [spec_NeedlessCoins.l0, if_neg (by omega)]) (Ev.val (by simp [ndl]))
 | d + 1, i, acc, h, ha => by
  have hi : i < l.length := by omega
  have ew : wrap64 ((i : Int) + 1) = ((i + 1 : Nat) : Int) := by rw [w64 (by omega) (by omega)]; omega
  have hc : 1 ≤ rd l (i : Int) ∧ rd l (i : Int) ≤ 1000 := by rw [rd_eq l i hi]; exact h1 _ (List.getElem_mem hi)
  have he := erase_coins h1 i
  have hel : (l.eraseIdx i).length ≤ 1000 := by have := List.length_eraseIdx_le l i; omega
  have hsp : l.take i ++ l.drop (i + 1) = l.eraseIdx i := List.eraseIdx_eq_take_drop_succ .. |>.symm
  obtain ⟨c, hcc⟩ : ∃ c, c = rd l (i : Int) := ⟨_, rfl⟩
  have hfew := spec_cnFewer.ev (l.eraseIdx i) hel (fun x hx => by have := he x hx; omega) c (by omega)
  have ihp := spec_NeedlessCoins.ev_l l hl h1 d (i + 1) (acc ++ [c]) (by omega) (by simp; omega)
  have ihn := spec_NeedlessCoins.ev_l l hl h1 d (i + 1) acc (by omega) (by omega)
  have htl : ((tab (c + 1).toNat (fewF (l.eraseIdx i) (-1))).length : Int) = c + 1 := by rw [tab_length]; omega
  have hrd : rd (tab (c + 1).toNat (fewF (l.eraseIdx i) (-1))) c = fewF (l.eraseIdx i) (-1) c := rd_tab _ _ _ (by omega) (by omega)
  refine Ev.step (f := fun k => (spec_cnFewer.f k (l.eraseIdx i) c).bind fun t499 => (if 0 ≤ c then (if c < (t499.length : Int) then (if (rd t499 c) ≥ 0 then (if acc.length < 17592186044416 then (spec_NeedlessCoins.l0 k l (acc ++ [c]) l (l.length : Int) ((i + 1 : Nat) : Int)) else (none)) else (spec_NeedlessCoins.l0 k l acc l (l.length : Int) ((i + 1 : Nat) : Int))) else (none)) else (none))) (fun k => ?_) (Ev.bind hfew (Ev.pos (by omega) (Ev.pos (by omega) ?_)))
  · rw [spec_NeedlessCoins.l0, if_pos (by omega), if_pos (by omega), if_pos (by omega), if_pos (by omega), Int.toNat_natCast, own_val _ (by rw [List.length_take]; omega), Option.bind_some, ew, if_pos (by omega), if_pos (by omega), Int.toNat_natCast, if_pos (by rw [List.length_take, List.length_drop]; omega), hsp, ← hcc]
  rw [ndl, ← hcc, hrd]
  by_cases q : 0 ≤ fewF (l.eraseIdx i) (-1) c
  · rw [if_pos q]
    exact Ev.pos q (Ev.pos (by omega) (Ev.eq ihp (by simp)))
  rw [if_neg q]
  exact Ev.neg q (Ev.eq ihn (by simp))
theorem spec_NeedlessCoins.ev (l : List Int) (hl : l.length ≤ 9223372036854775806) : Ev (fun k => spec_NeedlessCoins.f k l) (needB l) := by
 unfold spec_NeedlessCoins.f
 refine Ev.bind (spec_cnGood.ev l hl) (Ev.ite (fun g => ?_) (fun g => Ev.val (by rw [needB, if_neg g])))
 have hf := coins_facts g
 exact Ev.eq (spec_NeedlessCoins.ev_l l hf.2.1 hf.2.2.1 l.length 0 [] (by omega) (by simp)) (by rw [needB, if_pos g]; rfl)
theorem cur_sureCoins_l {l : List Int} (h : BytesL l) : ∀ (d : Nat) (x3 : List Int), 1 ≤ x3.length → x3.length + d ≤ 10 → ∀ {a : Int} (s : Int), 0 ≤ a → a + 2 * (d : Int) ≤ 800000000000 → ∃ r a' t, Ev (fun k => spec_l1Cur_sureCoins.l0 k x3 (d : Int) l a s) (r, a', t) ∧ r.length ≤ 10 ∧ a ≤ a' ∧ a' ≤ a + 2 * (d : Int)
 | 0, x3, hp, hx, a, s, h0, h1 => ⟨x3, a, s, Ev.step (f := fun _ => some (x3, a, s)) (fun k => by rw [spec_l1Cur_sureCoins.l0, if_neg (by omega)]) (Ev.val rfl), by omega, by omega, by omega⟩
 | d + 1, x3, hp, hx, a, s, h0, h1 => by
  obtain ⟨r, a1, s1, e1, hr0, hr1, ha, ha'⟩ := cur_pick h s (n := 9) h0 (by omega) (by omega) (by omega)
  have ed : wrap64 (((d + 1 : Nat) : Int) - 1) = (d : Int) := by rw [w64 (by omega) (by omega)]; omega
  have el : wrap64 ((x3.length : Int) - 1) = (x3.length : Int) - 1 := w64 (by omega) (by omega)
  obtain ⟨r4, a4, s4, e4, g1, g3, g4⟩ := cur_sureCoins_l h d (x3 ++ [wrap64 ((wrap64 ((rd x3 ((x3.length : Int) - 1)) + 1)) + r)]) (by simp) (by simp; omega) (a := a1) s1 (by omega) (by omega)
  refine ⟨r4, a4, s4, Ev.step (fun k => ?_) e4, g1, by omega, by omega⟩
  rw [spec_l1Cur_sureCoins.l0, if_pos (by omega), el, if_pos (by omega), if_pos (by omega), e1, Option.bind_some, if_pos (by omega), ed]
theorem cur_coins {l : List Int} (h : BytesL l) {a : Int} (s : Int) (h0 : 0 ≤ a) (h1 : a ≤ 600000000000) : ∃ r a' t, Ev (fun k => spec_l1Cur_coins.f k l a s) (r, a', t) ∧ r.length ≤ 20 ∧ a ≤ a' ∧ a' ≤ a + 50 := by
 unfold spec_l1Cur_coins.f
 obtain ⟨r1, a1, s1, e1, ha, ha'⟩ := cur_one h s (a := a) (n := 10) (by omega) (by omega) (by omega) (by omega)
 by_cases c : r1 = true
 · obtain ⟨r3, a3, s3, e3, hc0, hc1, hc, hc'⟩ := cur_pick h s1 (a := a1) (n := 10) (by omega) (by omega) (by omega) (by omega)
   refine ⟨rd_L2 [[], [0], [2, 1], [3, 3], [1000], [1, 1001], [1, 2, 3, 4, 5, 6, 7, 8, 9], [(-1)], [2, 4], [30, 31]] r3, a3, s3, Ev.bindc e1 (Ev.pos c (Ev.bindc rfl (Ev.bindc e3 (Ev.pos hc0 (Ev.pos (by show r3 < _; simp; omega) (Ev.val rfl)))))), ?_, by omega, by omega⟩
   have : r3 = 0 ∨ r3 = 1 ∨ r3 = 2 ∨ r3 = 3 ∨ r3 = 4 ∨ r3 = 5 ∨ r3 = 6 ∨ r3 = 7 ∨ r3 = 8 ∨ r3 = 9 := by omega
   rcases this with e | e | e | e | e | e | e | e | e | e <;> subst e <;> decide
 have sure : ∃ r a' t, Ev (fun k => spec_l1Cur_sureCoins.f k l a1 s1) (r, a', t) ∧ r.length ≤ 20 ∧ a1 ≤ a' ∧ a' ≤ a1 + 40 := by
  unfold spec_l1Cur_sureCoins.f
  obtain ⟨r2, a2, s2, e2, hb, hb'⟩ := cur_one h s1 (a := a1) (n := 4) (by omega) (by omega) (by omega) (by omega)
  by_cases c2 : r2 = true
  · obtain ⟨r3, a3, s3, e3, hc0, hc1, hc, hc'⟩ := cur_pick h s2 (a := a2) (n := 7) (by omega) (by omega) (by omega) (by omega)
    refine ⟨rd_L2 [[1, 5, 10, 25], [1, 3, 4], [1, 2, 5, 10, 20, 50], [3, 5], [6, 9, 20], [2, 4, 7], [1, 7, 10]] r3, a3, s3, Ev.bindc e2 (Ev.pos c2 (Ev.bindc rfl (Ev.bindc e3 (Ev.pos hc0 (Ev.pos (by show r3 < _; simp; omega) (Ev.val rfl)))))), ?_, by omega, by omega⟩
    have : r3 = 0 ∨ r3 = 1 ∨ r3 = 2 ∨ r3 = 3 ∨ r3 = 4 ∨ r3 = 5 ∨ r3 = 6 := by omega
    rcases this with e | e | e | e | e | e | e <;> subst e <;> decide
  obtain ⟨r3, a3, s3, e3, hc0, hc1, hc, hc'⟩ := cur_pick h s2 (a := a2) (n := 5) (by omega) (by omega) (by omega) (by omega)
  obtain ⟨r4, a4, s4, e4, hd0, hd1, hd, hd'⟩ := cur_pick h s3 (a := a3) (n := 5) (by omega) (by omega) (by omega) (by omega)
  obtain ⟨n, rfl⟩ := Int.eq_ofNat_of_zero_le hd0
  obtain ⟨r5, a5, s5, e5, g1, g2, g3⟩ := cur_sureCoins_l h n [wrap64 (1 + (wrap64 (Int.tdiv r3 2)))] (by simp) (by simp; omega) (a := a4) s4 (by omega) (by omega)
  exact ⟨r5, a5, s5, Ev.bindc e2 (Ev.neg c2 (Ev.bindc e3 (Ev.bindc e4 e5))), by omega, by omega, by omega⟩
 obtain ⟨r, a2, s2, e2, hl, hb, hb'⟩ := sure
 exact ⟨r, a2, s2, Ev.bindc e1 (Ev.neg c (Ev.bind e2 (Ev.val rfl))), hl, by omega, by omega⟩
theorem drawAreCoins_ev {l : List Int} (h : BytesL l) : ∃ r, Ev (fun k => spec_DrawAreCoins.f k l) r ∧ r.length ≤ 20 := by
 obtain ⟨r, a, t, e, hl, _, _⟩ := cur_coins h (a := 0) 0 (by omega) (by omega)
 refine ⟨r, ?_, hl⟩
 unfold spec_DrawAreCoins.f spec_DrawAreCoins_in.f
 exact Ev.bind (Ev.bind e (Ev.now _)) (Ev.now _)
theorem cur_amount {l : List Int} (h : BytesL l) {a : Int} (s : Int) (h0 : 0 ≤ a) (h1 : a ≤ 800000000000) : ∃ r a' t, spec_l1Cur_amount.f l a s = some (r, a', t) := by
 unfold spec_l1Cur_amount.f
 obtain ⟨r1, a1, s1, e1, ha, ha'⟩ := cur_one h s (a := a) (n := 12) (by omega) (by omega) (by omega) (by omega)
 by_cases c : r1 = true
 · obtain ⟨r3, a3, s3, e3, hm, hc, hc'⟩ := cur_among h s1 (a := a1) [(-1), 0, 20000, 20001, 4611686018427387904] (by omega) (by omega) (by simp) (by simp)
   exact ⟨r3, a3, s3, by rw [e1, Option.bind_some]; simp only; rw [if_pos c, e3, Option.bind_some]⟩
 obtain ⟨r3, a3, s3, e3, _, _, _, _⟩ := cur_pick h s1 (a := a1) (n := 90) (by omega) (by omega) (by omega) (by omega)
 exact ⟨r3, a3, s3, by rw [e1, Option.bind_some]; simp only; rw [if_neg c, e3, Option.bind_some]⟩
theorem drawCanChange_l {l : List Int} (h : BytesL l) (m : List Int) (hm : m.length ≤ 20) : ∀ (d i : Nat) (x7 : List Int), i + d = m.length → x7.length = i → ∀ {a : Int} (s : Int), 0 ≤ a → a + 2 * (d : Int) ≤ 700000000000 → ∃ p n a' t, Ev (fun k => spec_DrawCanChange_in.l0 k m x7 (m.length : Int) (i : Int) l a s) (m, p, n, a', t) ∧ p.length ≤ 30
 | 0, i, x7, e, hx, a, s, h0, h1 => by
  obtain ⟨r1, a1, s1, e1, ha, ha'⟩ := cur_one h s (a := a) (n := 12) (by omega) (by omega) (by omega) (by omega)
  have hle : ∀ z : Int, ∃ y, spec_l1Least.f z 300 = some y := fun z => by unfold spec_l1Least.f; split <;> exact ⟨_, rfl⟩
  by_cases c : r1 = true
  · obtain ⟨r3, a3, s3, e3, _, hc, hc'⟩ := cur_among h s1 (a := a1) [(-1), 0, 1001] (by omega) (by omega) (by simp) (by simp)
    obtain ⟨r4, a4, s4, e4⟩ := cur_amount h s3 (a := a3) (by omega) (by omega)
    obtain ⟨y, hy⟩ := hle r4
    refine ⟨x7 ++ [r3], y, a4, s4, Ev.step (f := fun _ => some (m, x7 ++ [r3], y, a4, s4)) (fun k => ?_) (Ev.val rfl), by simp; omega⟩
    rw [spec_DrawCanChange_in.l0, if_neg (by omega), e1, Option.bind_some]
    simp only
    rw [if_pos c, e3, Option.bind_some, if_pos (by omega)]
    simp only
    rw [e4, Option.bind_some]
    simp only
    rw [hy, Option.bind_some]
  obtain ⟨r4, a4, s4, e4⟩ := cur_amount h s1 (a := a1) (by omega) (by omega)
  obtain ⟨y, hy⟩ := hle r4
  refine ⟨x7, y, a4, s4, Ev.step (f := fun _ => some (m, x7, y, a4, s4)) (fun k => ?_) (Ev.val rfl), by omega⟩
  rw [spec_DrawCanChange_in.l0, if_neg (by omega), e1, Option.bind_some]
  simp only
  rw [if_neg c, e4, Option.bind_some]
  simp only
  rw [hy, Option.bind_some]
 | d + 1, i, x7, e, hx, a, s, h0, h1 => by
  obtain ⟨r, a1, s1, e1, _, _, ha, ha'⟩ := cur_pick h s (a := a) (n := 5) (by omega) (by omega) (by omega) (by omega)
  have ew : wrap64 ((i : Int) + 1) = ((i + 1 : Nat) : Int) := by rw [w64 (by omega) (by omega)]; omega
  obtain ⟨p, n, a2, s2, e2, hp⟩ := drawCanChange_l h m hm d (i + 1) (x7 ++ [r]) (by omega) (by simp [hx]) (a := a1) s1 (by omega) (by omega)
  refine ⟨p, n, a2, s2, Ev.step (fun k => ?_) e2, hp⟩
  rw [spec_DrawCanChange_in.l0, if_pos (by omega), e1, Option.bind_some]
  simp only
  rw [if_pos (by omega), ew]
theorem drawCanChange_ev {l : List Int} (h : BytesL l) : ∃ m p n, Ev (fun k => spec_DrawCanChange.f k l) (m, p, n) ∧ m.length ≤ 20 ∧ p.length ≤ 30 := by
 obtain ⟨m, a, t, e, hl, _, _⟩ := cur_coins h (a := 0) 0 (by omega) (by omega)
 obtain ⟨p, n, a2, s2, e2, hp⟩ := drawCanChange_l h m hl m.length 0 [] (by omega) rfl (a := a) t (by omega) (by omega)
 refine ⟨m, p, n, ?_, hl, hp⟩
 unfold spec_DrawCanChange.f spec_DrawCanChange_in.f
 exact Ev.bind (Ev.bind e e2) (Ev.now _)
theorem fewC_yes {l : List Int} {n : Int} (g : coinsB l = true) (h0 : 0 ≤ n) (h2 : n ≤ 20000) : (fewC l n).2 = true ↔ ¬ Unp l n := by
 have h1 : ∀ x ∈ l, 1 ≤ x := fun x hx => ((coins_facts g).2.2.1 x hx).1
 have hA : (coinsB l && inB n 0 20000) = true := by rw [g]; unfold inB; rw [decide_eq_true h0, decide_eq_true h2]; rfl
 have hu := unp_iff h1 n
 unfold fewC
 by_cases c : 0 ≤ fewF l (-1) n
 · rw [if_pos ⟨hA, c⟩]
   exact ⟨fun _ hn => by have := hu.2 hn; omega, fun _ => rfl⟩
 rw [if_neg (fun h => c h.2)]
 exact ⟨fun h => (by cases h), fun h => absurd (hu.1 (by omega)) h⟩
theorem cl_l107 {l : List Int} (g : coinsB l = true) : ∀ (d i : Nat), i + d = l.length → ∃ K, ∀ k n, K ≤ k → K ≤ n → laws_FnChangeLeft.l107 k n l (ndl l 0 l.length) l (l.length : Int) (i : Int) = some true := by
 have hf := coins_facts g
 have hp := pairwise_of_rises l hf.2.2.2
 have hmem := fun x => mem_ndl l x l.length 0
 have hris := ndl_rises hp l.length 0 (by rw [Nat.zero_add]; exact Nat.le_refl _)
 have hnl := Nat.le_trans (ndl_length l l.length 0) hf.2.1
 generalize ndl l 0 l.length = Q at hmem hris hnl ⊢
 intro d
 induction d with
 | zero =>
  intro i hi
  obtain ⟨K, hK⟩ := laws_tRises.ev Q (by omega)
  replace hK : ∀ k, K ≤ k → laws_tRises.f k Q = some (risesB Q) := hK
  refine ⟨K + 1, fun k n hk hn => ?_⟩
  obtain ⟨n', rfl⟩ : ∃ n', n = n' + 1 := ⟨n - 1, by omega⟩
  rw [laws_FnChangeLeft.l107, if_neg (by rw [decide_eq_false (by omega)]; decide)]
  unfold laws_FnChangeLeft.p123
  rw [hK k (by omega), rises_of_pairwise _ hris]; rfl
 | succ d ih =>
  intro i hi
  obtain ⟨K, hK⟩ := ih (i + 1) (by omega)
  have hil : i < l.length := by omega
  have hc : 1 ≤ rd l (i : Int) ∧ rd l (i : Int) ≤ 1000 := by rw [rd_eq l i hil]; exact hf.2.2.1 _ (List.getElem_mem hil)
  have he := erase_coins hf.2.2.1 i
  have hel : (l.eraseIdx i).length = l.length - 1 := List.length_eraseIdx_of_lt hil
  obtain ⟨K2, hK2⟩ := impl_FewestCoins.ev (l.eraseIdx i) (rd l (i : Int)) (by omega)
  obtain ⟨K3, hK3⟩ := laws_tHas.ev Q (rd l (i : Int)) (by omega)
  replace hK2 : ∀ k, K2 ≤ k → impl_FewestCoins.f k (l.eraseIdx i) (rd l (i : Int)) = some (fewC (l.eraseIdx i) (rd l (i : Int))) := hK2
  replace hK3 : ∀ k, K3 ≤ k → laws_tHas.f k Q (rd l (i : Int)) = some (decide (rd l (i : Int) ∈ Q)) := hK3
  have hsp : ([] ++ l.take i) ++ l.drop (i + 1) = l.eraseIdx i := by rw [List.nil_append]; exact (List.eraseIdx_eq_take_drop_succ ..).symm
  have key : decide (rd l (i : Int) ∈ Q) = (fewC (l.eraseIdx i) (rd l (i : Int))).2 := by
   rw [Bool.eq_iff_iff, decide_eq_true_eq, hmem]
   clear hmem
   have e1 : (∃ j, 0 ≤ j ∧ j < 0 + l.length ∧ rd l (i : Int) = rd l (j : Int) ∧ 0 ≤ fewF (l.eraseIdx j) (-1) (rd l (j : Int))) ↔ 0 ≤ fewF (l.eraseIdx i) (-1) (rd l (i : Int)) := by
    constructor
    · rintro ⟨j, _, h2, h3, h4⟩
      have hj : j < l.length := by clear h3 h4; omega
      rcases Nat.lt_trichotomy i j with q | q | q
      · exact absurd h3 (Int.ne_of_lt (rd_lt hp q hj))
      · rw [q]; exact h4
      exact absurd h3.symm (Int.ne_of_lt (rd_lt hp q hil))
    intro h; exact ⟨i, Nat.zero_le _, by rw [Nat.zero_add]; exact hil, rfl, h⟩
   rw [e1]
   clear e1
   unfold fewC
   by_cases hone : l.length = 1
   · have hnil : l.eraseIdx i = [] := List.eq_nil_of_length_eq_zero (by omega)
     have hcf : coinsB ([] : List Int) = false := by decide
     rw [hnil, fewF_nil _ _ (by omega), hcf]
     simp
   have hcr : coinsB (l.eraseIdx i) = true := by
    unfold coinsB inB
    simp only [Bool.and_eq_true, decide_eq_true_eq, List.all_eq_true]
    exact ⟨⟨by omega, by omega⟩, he, rises_of_pairwise _ (hp.sublist (List.eraseIdx_sublist _ _))⟩
   have hA : (coinsB (l.eraseIdx i) && inB (rd l (i : Int)) 0 20000) = true := by rw [hcr]; unfold inB; rw [decide_eq_true (by omega), decide_eq_true (by omega)]; rfl
   by_cases q : 0 ≤ fewF (l.eraseIdx i) (-1) (rd l (i : Int))
   · rw [if_pos ⟨hA, q⟩]; exact ⟨fun _ => rfl, fun _ => q⟩
   rw [if_neg (fun h => q h.2)]; exact ⟨fun h => absurd h q, fun h => by cases h⟩
  refine ⟨K + K2 + K3 + 1, fun k n hk hn => ?_⟩
  obtain ⟨n', rfl⟩ : ∃ n', n = n' + 1 := ⟨n - 1, by omega⟩
  have ew : wrap64 ((i : Int) + 1) = ((i + 1 : Nat) : Int) := by rw [w64 (by omega) (by omega)]; omega
  have c1 : decide ((i : Int) < (l.length : Int)) = true := decide_eq_true (Int.ofNat_lt.2 hil)
  have c2 : decide ((0 : Int) ≤ (i : Int)) = true := decide_eq_true (Int.natCast_nonneg i)
  have c3 : decide ((i : Int) ≤ (l.length : Int)) = true := decide_eq_true (Int.ofNat_le.2 (Nat.le_of_lt hil))
  have hll : l.length ≤ 8 := hf.2.1
  have c4 : decide (([] : List Int).length + (l.take i).length < 17592186044416) = true := decide_eq_true (by rw [List.length_nil, List.length_take, Nat.zero_add]; exact Nat.lt_of_le_of_lt (Nat.le_trans (Nat.min_le_right _ _) hll) (by decide))
  have c5 : decide ((0 : Int) ≤ ((i + 1 : Nat) : Int)) = true := decide_eq_true (Int.natCast_nonneg _)
  have c6 : decide (((i + 1 : Nat) : Int) ≤ (l.length : Int)) = true := decide_eq_true (Int.ofNat_le.2 hil)
  have c7 : decide (([] ++ l.take i).length + (l.drop (i + 1)).length < 17592186044416) = true := decide_eq_true (by rw [← List.length_append, hsp, hel]; exact Nat.lt_of_le_of_lt (Nat.le_trans (Nat.sub_le _ _) hll) (by decide))
  have hk2 : K2 ≤ k := Nat.le_trans (Nat.le_trans (Nat.le_add_left _ _) (Nat.le_trans (Nat.le_add_right _ _) (Nat.le_add_right _ _))) hk
  have hk3 : K3 ≤ k := Nat.le_trans (Nat.le_trans (Nat.le_add_left _ _) (Nat.le_add_right _ _)) hk
  have hk1 : K ≤ k := Nat.le_trans (Nat.le_trans (Nat.le_add_right _ _) (Nat.le_trans (Nat.le_add_right _ _) (Nat.le_add_right _ _))) hk
  have hn1 : K ≤ n' := Nat.le_trans (Nat.le_trans (Nat.le_add_right _ _) (Nat.le_add_right _ _)) (Nat.le_of_succ_le_succ hn)
  have ht := hK k n' hk1 hn1
  rw [laws_FnChangeLeft.l107, if_pos c1, c2, c1, if_pos (show (true && true) = true from rfl), c3, if_pos (show (true && true) = true from rfl), Int.toNat_natCast, if_pos c4, ew, c5, c6, if_pos (show (true && true) = true from rfl), Int.toNat_natCast, if_pos c7, hsp, hK2 k hk2, Option.bind_some, hK3 k hk3, Option.bind_some, key]
  have cz : ¬ (((fewC (l.eraseIdx i) (rd l (i : Int))).2 != (fewC (l.eraseIdx i) (rd l (i : Int))).2) = true) := by
   generalize (fewC (l.eraseIdx i) (rd l (i : Int))).2 = bb
   cases bb <;> decide
  rw [if_neg cz]
  unfold laws_FnChangeLeft.p122
  rw [ew]
  exact ht
theorem cl_p105 {l : List Int} (g : coinsB l = true) : Ev (fun k => laws_FnChangeLeft.p105 k l (needB l).1 (needB l).2) true := by
 have e : needB l = (ndl l 0 l.length, true) := by rw [needB, if_pos g]
 rw [e]
 unfold laws_FnChangeLeft.p105
 refine Ev.pos rfl ?_
 obtain ⟨K, hK⟩ := cl_l107 g l.length 0 (by omega)
 exact ⟨K, fun k hk => hK k k hk hk⟩
theorem unpU_cut {l : List Int} {m : Int} (g : coinsB l = true) (hG : Great l m) : unpU l = unpL l (m + 1).toNat := by
 have h1 : ∀ x ∈ l, 1 ≤ x := fun x hx => ((coins_facts g).2.2.1 x hx).1
 have hge := hG.ge
 obtain ⟨N, hN⟩ : ∃ N, unpU l = unpL l N := ⟨_, rfl⟩
 have hle : (m + 1).toNat ≤ N := by
  by_cases h0 : 0 ≤ m
  · have := (hG.u m).2 ⟨h0, hG.mem h0⟩
    rw [hN, mem_unpL h1] at this
    omega
  omega
 rw [hN]
 obtain ⟨d, rfl⟩ : ∃ d, N = (m + 1).toNat + d := ⟨N - (m + 1).toNat, by omega⟩
 have key : ∀ d, unpL l ((m + 1).toNat + d) = unpL l (m + 1).toNat := by
  intro d
  induction d with
  | zero => rfl
  | succ d ih =>
   rw [← ih]
   unfold unpL
   rw [show (m + 1).toNat + (d + 1) = ((m + 1).toNat + d) + 1 by omega, rg_snoc, List.filter_append, Nat.zero_add, List.filter_cons, if_neg]
   · simp
   intro h
   have h2 := (unp_iff h1 _).1 (of_decide_eq_true h)
   have := hG.top _ (by omega) h2
   omega
 exact key d
theorem cl_l98 {l : List Int} {m : Int} (g : coinsB l = true) (hG : Great l m) (hm : m ≤ 300) : ∀ (d n : Nat), (n : Int) + d = m + 1 → ∃ K, ∀ k j, K ≤ k → K ≤ j → laws_FnChangeLeft.l98 k j l m ((unpU l).length : Int) (needB l).1 (needB l).2 ((unpL l n).length : Int) (n : Int) = some true := by
 have h1 : ∀ x ∈ l, 1 ≤ x := fun x hx => ((coins_facts g).2.2.1 x hx).1
 have hf := coins_facts g
 intro d
 induction d with
 | zero =>
  intro n hn
  obtain ⟨K, hK⟩ := cl_p105 g
  replace hK : ∀ k, K ≤ k → laws_FnChangeLeft.p105 k l (needB l).1 (needB l).2 = some true := hK
  refine ⟨K + 1, fun k j hk hj => ?_⟩
  obtain ⟨j', rfl⟩ : ∃ j', j = j' + 1 := ⟨j - 1, by omega⟩
  rw [laws_FnChangeLeft.l98, if_neg (by rw [decide_eq_false (by omega)]; decide)]
  unfold laws_FnChangeLeft.p103
  rw [unpU_cut g hG, show (m + 1).toNat = n by omega, if_neg (by simp)]
  exact hK k (by omega)
 | succ d ih =>
  intro n hn
  obtain ⟨K, hK⟩ := ih (n + 1) (by omega)
  obtain ⟨K2, hK2⟩ := impl_FewestCoins.ev l (n : Int) (by omega)
  replace hK2 : ∀ k, K2 ≤ k → impl_FewestCoins.f k l (n : Int) = some (fewC l (n : Int)) := hK2
  have hy := fewC_yes g (n := (n : Int)) (by omega) (by omega)
  have hle : (unpL l n).length ≤ n := by
   have := List.length_filter_le (fun a => decide (fewF l (-1) a < 0)) (rg 0 n)
   rw [rg_length] at this
   exact this
  have hsn : ((unpL l (n + 1)).length : Int) = (unpL l n).length + (if fewF l (-1) (n : Int) < 0 then 1 else 0) := by
   unfold unpL
   rw [rg_snoc, List.filter_append, Nat.zero_add, List.filter_cons, List.length_append]
   by_cases q : fewF l (-1) (n : Int) < 0
   · rw [if_pos q, if_pos (decide_eq_true q)]; simp
   rw [if_neg q, if_neg (by rw [decide_eq_false q]; decide)]; simp
  have hun := unp_iff h1 (n : Int)
  generalize fewF l (-1) (n : Int) = ff at hun hsn
  generalize (unpL l (n + 1)).length = u1 at hsn hK
  generalize (unpL l n).length = u0 at hsn hle ⊢
  refine ⟨K + K2 + 1, fun k j hk hj => ?_⟩
  obtain ⟨j', rfl⟩ : ∃ j', j = j' + 1 := ⟨j - 1, by omega⟩
  have ew : wrap64 ((n : Int) + 1) = ((n + 1 : Nat) : Int) := by rw [w64 (by omega) (by omega)]; omega
  have hK' := hK k j' (by omega) (by omega)
  rw [hsn] at hK'
  rw [laws_FnChangeLeft.l98, if_pos (by rw [decide_eq_true (by omega)]), hK2 k (by omega), Option.bind_some]
  unfold laws_FnChangeLeft.p102
  rw [ew]
  by_cases q : ff < 0
  · have : ¬ (fewC l (n : Int)).2 = true := fun h => hy.1 h (hun.1 q)
    rw [if_pos q] at hK'
    have eb : (fewC l (n : Int)).2 = false := by cases h : (fewC l (n : Int)).2 with | false => rfl | true => exact absurd h this
    have eu : wrap64 ((u0 : Int) + 1) = (u0 : Int) + 1 := by clear hK' hK hK2 hsn hun hy eb this; exact w64 (by omega) (by omega)
    rw [eb, if_pos (show (!false) = true from rfl), eu]
    exact hK'
  have : (fewC l (n : Int)).2 = true := hy.2 (fun h => q (hun.2 h))
  rw [if_neg q, Int.add_zero] at hK'
  rw [this, if_neg (show ¬ (!true) = true by decide)]
  exact hK'
theorem cl_p96 {l : List Int} {m : Int} (g : coinsB l = true) (hG : Great l m) : Ev (fun k => laws_FnChangeLeft.p96 k l m ((unpU l).length : Int) (needB l).1 (needB l).2) true := by
 have hge := hG.ge
 unfold laws_FnChangeLeft.p96
 refine Ev.ite (fun h => ?_) (fun _ => cl_p105 g)
 obtain ⟨K, hK⟩ := cl_l98 g hG (of_decide_eq_true h) (m + 1).toNat 0 (by omega)
 exact ⟨K, fun k hk => hK k k hk hk⟩
theorem cl_l87 {l : List Int} {m : Int} (g : coinsB l = true) (hG : Great l m) : ∀ (d : Nat) (n : Int), m < n → n + d = m + rd l 0 + 1 → ∃ K, ∀ k j, K ≤ k → K ≤ j → laws_FnChangeLeft.l87 k j l m ((unpU l).length : Int) (needB l).1 (needB l).2 n = some true := by
 have hf := coins_facts g
 obtain ⟨c1, c2, c3⟩ := coins_head g
 have hge := hG.ge
 have hle := hG.le
 obtain ⟨K0, hK0⟩ := cl_p96 g hG
 replace hK0 : ∀ k, K0 ≤ k → laws_FnChangeLeft.p96 k l m ((unpU l).length : Int) (needB l).1 (needB l).2 = some true := hK0
 have ewm : wrap64 (m + rd l 0) = m + rd l 0 := w64 (by omega) (by omega)
 intro d
 induction d with
 | zero =>
  intro n hn hd
  refine ⟨K0 + 1, fun k j hk hj => ?_⟩
  obtain ⟨j', rfl⟩ : ∃ j', j = j' + 1 := ⟨j - 1, by omega⟩
  rw [laws_FnChangeLeft.l87, if_pos (by rw [decide_eq_true (by omega), decide_eq_true (by omega)]; rfl), ewm, if_neg (by rw [decide_eq_false (by omega)]; decide), Option.bind_some, if_neg (by decide)]
  exact hK0 k (by omega)
 | succ d ih =>
  intro n hn hd
  obtain ⟨K, hK⟩ := ih (n + 1) (by omega) (by omega)
  obtain ⟨K2, hK2⟩ := impl_FewestCoins.ev l n (by omega)
  replace hK2 : ∀ k, K2 ≤ k → impl_FewestCoins.f k l n = some (fewC l n) := hK2
  refine ⟨K + K0 + K2 + 1, fun k j hk hj => ?_⟩
  obtain ⟨j', rfl⟩ : ∃ j', j = j' + 1 := ⟨j - 1, by omega⟩
  rw [laws_FnChangeLeft.l87, if_pos (by rw [decide_eq_true (by omega), decide_eq_true (by omega)]; rfl), ewm, if_pos (by rw [decide_eq_true (by omega)]), Option.bind_some]
  by_cases q : n ≤ 20000
  · have hy := (fewC_yes g (n := n) (by omega) q).2 (fun h => by have := hG.top n (by omega) h; omega)
    rw [if_pos (decide_eq_true q), hK2 k (by omega), Option.bind_some, if_pos hy]
    unfold laws_FnChangeLeft.p95
    rw [w64 (n := n + 1) (by omega) (by omega)]
    exact hK k j' (by omega) (by omega)
  rw [if_neg (by rw [decide_eq_false q]; decide)]
  exact hK0 k (by omega)
theorem cl_p86 {l : List Int} {m : Int} (g : coinsB l = true) (hG : Great l m) : Ev (fun k => laws_FnChangeLeft.p86 k l m ((unpU l).length : Int) (needB l).1 (needB l).2) true := by
 obtain ⟨c1, c2, c3⟩ := coins_head g
 have hge := hG.ge
 have hle := hG.le
 unfold laws_FnChangeLeft.p86
 rw [w64 (n := m + 1) (by omega) (by omega)]
 obtain ⟨K, hK⟩ := cl_l87 g hG (rd l 0).toNat (m + 1) (by omega) (by omega)
 exact ⟨K, fun k hk => hK k k hk hk⟩
theorem cl_p73 {l : List Int} {m : Int} (g : coinsB l = true) (hG : Great l m) : Ev (fun k => laws_FnChangeLeft.p73 k l m true ((unpU l).length : Int) (needB l).1 (needB l).2) true := by
 have hf := coins_facts g
 have h1 : ∀ x ∈ l, 1 ≤ x := fun x hx => (hf.2.2.1 x hx).1
 obtain ⟨c1, c2, c3⟩ := coins_head g
 have hge := hG.ge
 have hle := hG.le
 have hcut := unpU_cut g hG
 have hUle : ((unpU l).length : Int) ≤ m + 1 := by
  rw [hcut]
  have := List.length_filter_le (fun a => decide (fewF l (-1) a < 0)) (rg 0 (m + 1).toNat)
  rw [rg_length] at this
  have h2 : (unpL l (m + 1).toNat).length ≤ (m + 1).toNat := this
  omega
 have hU0 : 0 ≤ m → 0 < (unpU l).length := fun h0 => List.length_pos_of_mem ((hG.u m).2 ⟨h0, hG.mem h0⟩)
 have hone : ((unpU l).length = 0) ↔ rd l 0 = 1 := by
  constructor
  · intro h
    apply Classical.byContradiction
    intro hn
    have hmin : ∀ x ∈ l, rd l 0 ≤ x := by
     cases hl : l with
     | nil => rw [hl] at c3; cases c3
     | cons y s =>
      intro x hx
      have e0 : rd (y :: s) 0 = y := rfl
      rw [e0]
      rcases List.mem_cons.1 hx with q | q
      · omega
      have := risesB_head (by rw [← hl]; exact hf.2.2.2) x q; omega
    have hu1 : Unp l 1 := fun n hn' => by
     cases n with
     | zero => exact absurd (show (1 : Int) = 0 from hn') (by decide)
     | succ n =>
      obtain ⟨c, hc, hp⟩ := hn'
      have := payN_ge h1 n _ hp
      have := hmin c hc
      omega
    have := (hG.u 1).2 ⟨by omega, hu1⟩
    rw [List.eq_nil_of_length_eq_zero h] at this
    cases this
  intro h
  apply Classical.byContradiction
  intro hn
  obtain ⟨a, ha⟩ := List.exists_mem_of_length_pos (Nat.pos_of_ne_zero hn)
  obtain ⟨h0, hu⟩ := (hG.u a).1 ha
  have := payN_mul2 c3 a.toNat
  rw [h, Int.mul_one, Int.toNat_of_nonneg h0] at this
  exact hu _ this
 have hm1 : m = -1 ↔ (unpU l).length = 0 := by
  constructor
  · intro h; omega
  intro h
  apply Classical.byContradiction
  intro hn
  have := hU0 (by omega); omega
 unfold laws_FnChangeLeft.p73
 refine Ev.pos rfl (Ev.neg (by rw [decide_eq_false (by omega)]; decide) (Ev.neg ?_ (Ev.pos (by rw [decide_eq_true (by omega), decide_eq_true (by omega)]; rfl) (Ev.neg ?_ (Ev.neg ?_ ?_)))))
 · rw [show (m == -1) = (((unpU l).length : Int) == 0) from by
    rw [Bool.eq_iff_iff, beq_iff_eq, beq_iff_eq]
    exact ⟨fun h => by have := hm1.1 h; omega, fun h => hm1.2 (by omega)⟩]
   simp
 · rw [show (((unpU l).length : Int) == 0) = (rd l 0 == 1) from by
    rw [Bool.eq_iff_iff, beq_iff_eq, beq_iff_eq]
    exact ⟨fun h => hone.1 (by omega), fun h => by have := hone.2 h; omega⟩]
   simp
 · rw [w64 (n := m + 1) (by omega) (by omega), decide_eq_false (by omega)]; decide
 refine Ev.bind (a := decide (0 ≤ m) && decide (m ≤ 20000)) ?_ (Ev.ite (fun h => ?_) (fun _ => cl_p86 g hG))
 · refine Ev.ite (fun h => Ev.val ?_) (fun h => Ev.val ?_)
   · rw [h]; rfl
   rw [Bool.not_eq_true] at h; rw [h]; rfl
 simp only [Bool.and_eq_true, decide_eq_true_eq] at h
 have hy : ¬ (fewC l m).2 = true := fun q => (fewC_yes g h.1 h.2).1 q (hG.mem h.1)
 exact Ev.bind (impl_FewestCoins.ev l m (by omega)) (Ev.neg hy (cl_p86 g hG))
theorem cl_p53 {l1 : List Int} (B1 : BytesL l1) : Ev (fun k => laws_FnChangeLeft.p53 k l1) true := by
 have hs : ∀ (x : List Int), x.length ≤ 1000000 → Ev (fun k => laws_tSame.f k x x) true := fun x hx => Ev.eq (laws_tSame.ev x x (by omega)) (by simp)
 unfold laws_FnChangeLeft.p53
 obtain ⟨l, hD, hl⟩ := drawAreCoins_ev B1
 have hD' : Ev (fun k => spec_DrawGreatestUnpaid.f k l1) l := by unfold spec_DrawGreatestUnpaid.f; exact Ev.bind hD (Ev.now _)
 refine Ev.bind hD' ?_
 have hnl : (needB l).1.length ≤ 1000000 := by
  unfold needB; split
  · have := ndl_length l l.length 0; simp only; omega
  simp
 have hn2 : (needB l).2 = coinsB l := by
  unfold needB
  by_cases q : coinsB l = true
  · rw [if_pos q, q]
  rw [if_neg q]; rw [Bool.not_eq_true] at q; rw [q]
 have hsg := spec_GreatestUnpaid.ev l (by omega)
 have hA := impl_AreCoins.ev l (by omega)
 rcases impl_GreatestUnpaid.ev l (by omega) with ⟨g, hg, m, hG, hE⟩ | ⟨hn, hE⟩
 · have e1 := impl_CountUnpaid.ev l (by omega)
   have e2 := spec_CountUnpaid.ev l (by omega)
   rw [if_pos ⟨g, hg⟩] at e1 e2
   refine Ev.bind hE (Ev.bind (hsg.1 m g hg hG) (Ev.bind e1 (Ev.bind e2 (Ev.bind (impl_NeedlessCoins.ev l (by omega)) (Ev.bind (spec_NeedlessCoins.ev l (by omega)) ?_)))))
   refine Ev.neg (by simp) (Ev.neg (by simp) (Ev.neg (by simp) (Ev.neg (by simp) (Ev.neg (by simp) (Ev.neg (by simp) (Ev.bind (hs _ hnl) (Ev.neg (by decide) (Ev.bind hA (Ev.neg (by rw [hn2]; simp) (Ev.bind (a := false) (Ev.pos rfl (Ev.val (by rw [hn2, g]; rfl))) (Ev.neg (by decide) (cl_p73 g hG))))))))))))
 have e1 := impl_CountUnpaid.ev l (by omega)
 have e2 := spec_CountUnpaid.ev l (by omega)
 rw [if_neg hn] at e1 e2
 refine Ev.bind hE (Ev.bind (hsg.2 hn) (Ev.bind e1 (Ev.bind e2 (Ev.bind (impl_NeedlessCoins.ev l (by omega)) (Ev.bind (spec_NeedlessCoins.ev l (by omega)) ?_)))))
 refine Ev.neg (by simp) (Ev.neg (by simp) (Ev.neg (by simp) (Ev.neg (by simp) (Ev.neg (by simp) (Ev.neg (by simp) (Ev.bind (hs _ hnl) (Ev.neg (by decide) (Ev.bind hA (Ev.neg (by rw [hn2]; simp) (Ev.bind (a := false) (Ev.neg (by decide) (Ev.val rfl)) (Ev.neg (by decide) ?_)))))))))))
 unfold laws_FnChangeLeft.p73
 refine Ev.neg (by decide) ?_
 by_cases g : coinsB l = true
 · exact cl_p105 g
 have e : needB l = ([], false) := by rw [needB, if_neg g]
 rw [e]
 unfold laws_FnChangeLeft.p105
 exact Ev.neg (by decide) (Ev.val rfl)
theorem cl_p46 {l1 : List Int} (B1 : BytesL l1) (l m : List Int) (s : Int) (g : purseB l m s = true) (W : Int) (hW : W = worth (l.zip m)) (hW0 : 0 ≤ W ∧ W ≤ 100000000) : Ev (fun k => laws_FnChangeLeft.p46 k l1 l m s (canB (l.zip m) s) W) true := by
 obtain ⟨gc, h0, h2, hml, hm⟩ := purse_facts g
 have hf := coins_facts gc
 unfold laws_FnChangeLeft.p46
 refine Ev.bind (a := decide (s ≤ W) && decide (W - s ≤ 20000)) ?_ (Ev.ite (fun h => ?_) (fun _ => cl_p53 B1))
 · refine Ev.ite (fun h => Ev.val ?_) (fun h => Ev.val ?_)
   · have := of_decide_eq_true h
     rw [h, w64 (n := W - s) (by omega) (by omega)]; rfl
   rw [Bool.not_eq_true] at h; rw [h]; rfl
 simp only [Bool.and_eq_true, decide_eq_true_eq] at h
 rw [w64 (n := W - s) (by omega) (by omega)]
 have gp : purseB l m (W - s) = true := by
  unfold purseB inB at g ⊢
  simp only [Bool.and_eq_true, decide_eq_true_eq] at g ⊢
  exact ⟨⟨g.1.1, by omega, by omega⟩, g.2⟩
 have e : canCB l m (W - s) = (canB (l.zip m) s, true) := by
  rw [canCB, if_pos gp]
  congr 1
  rw [Bool.eq_iff_iff, canB_iff, canB_iff]
  constructor
  · intro q
    have := can_rest _ _ q
    rw [← hW, show W - (W - s) = s by omega] at this; exact this
  intro q
  have := can_rest _ _ q
  rw [← hW] at this; exact this
 exact Ev.bind (Ev.eq (impl_CanChange.ev l m (W - s) (by omega)) e) (Ev.pos rfl (Ev.neg (by simp) (cl_p53 B1)))
theorem worth_snoc : ∀ (L : List (Int × Int)) (c m : Int), worth (L ++ [(c, m)]) = worth L + m * c
 | [], c, m => by simp [worth]
 | (c', m') :: t, c, m => by simp only [List.cons_append, worth, worth_snoc t]; omega
theorem cl_l39 {l1 : List Int} (B1 : BytesL l1) (l m : List Int) (s : Int) (g : purseB l m s = true) : ∀ (t q : List Int), q ++ t = m → (∀ a : Int, a = worth (l.zip m) → True) → ∃ K, ∀ k n, K ≤ k → K ≤ n → laws_FnChangeLeft.l39 k n l1 l m s (canB (l.zip m) s) (worth ((l.take q.length).zip q)) m (m.length : Int) (q.length : Int) = some true := by
 obtain ⟨gc, h0, h2, hml, hm⟩ := purse_facts g
 have hf := coins_facts gc
 have hb : ∀ (q : List Int), q.length ≤ l.length → (∀ x ∈ q, 0 ≤ x ∧ x ≤ 1000) → ∀ (p : List Int), (∀ x ∈ p, 1 ≤ x ∧ x ≤ 1000) → 0 ≤ worth (p.zip q) ∧ worth (p.zip q) ≤ 1000000 * q.length := by
  intro q
  induction q with
  | nil => intro _ _ p _; simp [worth]
  | cons x q ih =>
   intro hq hx p hp
   cases p with
   | nil => simp [worth]; omega
   | cons y p =>
    have := ih (by simp at hq; omega) (fun z hz => hx z (by simp [hz])) p (fun z hz => hp z (by simp [hz]))
    have hx1 := hx x (by simp)
    have hy1 := hp y (by simp)
    have m1 : 0 ≤ x * y := Int.mul_nonneg hx1.1 (by omega)
    have m2 : x * y ≤ 1000 * 1000 := Int.le_trans (Int.mul_le_mul_of_nonneg_right hx1.2 (by omega)) (Int.mul_le_mul_of_nonneg_left hy1.2 (by omega))
    simp only [List.zip_cons_cons, worth, List.length_cons]
    omega
 intro t
 induction t with
 | nil =>
  intro q e _
  rw [List.append_nil] at e
  subst e
  have hw := hb q (by omega) hm (l.take q.length) (fun x hx => hf.2.2.1 x (List.mem_of_mem_take hx))
  have et : l.take q.length = l := List.take_of_length_le (by omega)
  rw [et] at hw
  obtain ⟨K, hK⟩ := cl_p46 B1 l q s g (worth (l.zip q)) rfl (by omega)
  replace hK : ∀ k, K ≤ k → laws_FnChangeLeft.p46 k l1 l q s (canB (l.zip q) s) (worth (l.zip q)) = some true := hK
  refine ⟨K + 1, fun k n hk hn => ?_⟩
  obtain ⟨n', rfl⟩ : ∃ n', n = n' + 1 := ⟨n - 1, by omega⟩
  rw [laws_FnChangeLeft.l39, if_neg (by rw [decide_eq_false (by omega)]; decide), et]
  exact hK k (by omega)
 | cons x t ih =>
  intro q e hh
  have hll : m.length = q.length + (t.length + 1) := by rw [← e]; simp
  have hx := hm x (by rw [← e]; simp)
  have hq : ∀ y ∈ q, 0 ≤ y ∧ y ≤ 1000 := fun y hy => hm y (by rw [← e]; simp [hy])
  have hil : q.length < l.length := by omega
  have hc := hf.2.2.1 _ (List.getElem_mem hil)
  have er : rd m (q.length : Int) = x := by rw [← e]; exact rd_app q x t
  have erl : rd l (q.length : Int) = l[q.length] := rd_eq l _ hil
  have hw := hb q (by omega) hq (l.take q.length) (fun x hx => hf.2.2.1 x (List.mem_of_mem_take hx))
  obtain ⟨K, hK⟩ := ih (q ++ [x]) (by rw [← e]; simp) hh
  have ez : (l.take (q ++ [x]).length).zip (q ++ [x]) = (l.take q.length).zip q ++ [(l[q.length], x)] := by
   rw [List.length_append, List.length_singleton, List.take_succ_eq_append_getElem hil, List.zip_append (by simp; omega)]; rfl
  have m1 : 0 ≤ x * l[q.length] := Int.mul_nonneg hx.1 (by omega)
  have m2 : x * l[q.length] ≤ 1000 * 1000 := Int.le_trans (Int.mul_le_mul_of_nonneg_right hx.2 (by omega)) (Int.mul_le_mul_of_nonneg_left hc.2 (by omega))
  refine ⟨K + 1, fun k n hk hn => ?_⟩
  obtain ⟨n', rfl⟩ : ∃ n', n = n' + 1 := ⟨n - 1, by omega⟩
  have ew : wrap64 ((q.length : Int) + 1) = ((q ++ [x]).length : Int) := by rw [w64 (by omega) (by omega)]; simp
  have hK' := hK k n' (by omega) (by omega)
  rw [ez, worth_snoc] at hK'
  rw [laws_FnChangeLeft.l39, if_pos (by rw [decide_eq_true (by omega)]), if_pos (by rw [decide_eq_true (by omega), decide_eq_true (by omega)]; rfl), if_pos (by rw [decide_eq_true (by omega), decide_eq_true (by omega)]; rfl), er, erl]
  unfold laws_FnChangeLeft.p45
  rw [ew, w64 (n := x * l[q.length]) (by omega) (by omega), w64 (n := worth ((l.take q.length).zip q) + x * l[q.length]) (by omega) (by omega)]
  exact hK'
theorem cl_p37 {l1 : List Int} (B1 : BytesL l1) (l m : List Int) (s : Int) : Ev (fun k => laws_FnChangeLeft.p37 k l1 l m s (canCB l m s).1 (canCB l m s).2) true := by
 unfold laws_FnChangeLeft.p37
 by_cases g : purseB l m s = true
 · have e : canCB l m s = (canB (l.zip m) s, true) := by rw [canCB, if_pos g]
   rw [e]
   refine Ev.pos rfl ?_
   obtain ⟨K, hK⟩ := cl_l39 B1 l m s g m [] rfl (fun _ _ => trivial)
   exact ⟨K, fun k hk => hK k k hk hk⟩
 have e : canCB l m s = (false, false) := by rw [canCB, if_neg g]
 rw [e]
 exact Ev.neg (by decide) (cl_p53 B1)
theorem cl_p30 {l1 : List Int} (B1 : BytesL l1) (l m : List Int) (s : Int) (g : purseB l m s = true) (hc : Can (l.zip m) s) : Ev (fun k => laws_FnChangeLeft.p30 k l1 l m s (chgL (l.zip m) s) (canCB l m s).1 (canCB l m s).2 s) true := by
 obtain ⟨gc, h0, h2, hml, hm⟩ := purse_facts g
 have hf := coins_facts gc
 have h1 : ∀ x ∈ l, 1 ≤ x := fun x hx => (hf.2.2.1 x hx).1
 have hlen : (chgL (l.zip m) s).length = l.length := by rw [chgL_length, List.length_zip]; omega
 obtain ⟨hr, n, hn, hp⟩ := chg_pay l h1 (l.zip m) s (fun x hx => ⟨(List.of_mem_zip hx).1, (hm _ (List.of_mem_zip hx).2).2⟩) hc
 have hsum := sum_le (chgL (l.zip m) s) 1000 (fun x hx => (hr x hx).2)
 have hfew : ∃ p : Nat, fewC l s = ((p : Int), true) ∧ p ≤ n := by
  have hA : (coinsB l && inB s 0 20000) = true := by rw [gc]; unfold inB; rw [decide_eq_true h0, decide_eq_true h2]; rfl
  rcases fewF_cases h1 s with ⟨p, h3, h4, _, e⟩ | ⟨h3, _⟩
  · refine ⟨p, by rw [fewC, e, if_pos ⟨hA, by omega⟩], ?_⟩
    apply Classical.byContradiction
    intro q
    exact h4 n (by omega) hp
  exact absurd hp (h3 n)
 obtain ⟨p, hpe, hpn⟩ := hfew
 unfold laws_FnChangeLeft.p30
 refine Ev.bind (Ev.eq (impl_FewestCoins.ev l s (by omega)) hpe) (Ev.neg (by simp) (Ev.neg (by simp [hlen]) (Ev.pos rfl (Ev.bind (laws_tSum.ev (chgL (l.zip m) s) (by omega) (fun x hx => (hr x hx).1) (by omega)) (Ev.neg ?_ (cl_p37 B1 l m s))))))
 rw [decide_eq_false (by show ¬ (chgL (l.zip m) s).sum < (p : Int); omega)]; decide
theorem cl_l19 {l1 : List Int} (B1 : BytesL l1) (l m : List Int) (s : Int) (g : purseB l m s = true) (hcan : Can (l.zip m) s) : ∀ (t q : List Int) (a : Int) (P : List Int), q ++ t = l → 0 ≤ a → a ≤ s → Can ((l.zip m).drop q.length) a → P.length = q.length → chgL (l.zip m) s = P ++ chgL ((l.zip m).drop q.length) a → ∃ K, ∀ k n, K ≤ k → K ≤ n → laws_FnChangeLeft.l19 k n l1 l m s (chgL (l.zip m) s) (canCB l m s).1 (canCB l m s).2 (s - a) (chgL (l.zip m) s) ((chgL (l.zip m) s).length : Int) (q.length : Int) = some true := by
 obtain ⟨gc, h0', h2', hml, hm⟩ := purse_facts g
 have hf := coins_facts gc
 have hlen : (chgL (l.zip m) s).length = l.length := by rw [chgL_length, List.length_zip]; omega
 intro t
 induction t with
 | nil =>
  intro q a P e h0 h2 hc hP hch
  rw [List.append_nil] at e
  subst e
  rw [List.drop_of_length_le (by rw [List.length_zip]; omega)] at hc
  have ha : a = 0 := hc
  subst ha
  obtain ⟨K, hK⟩ := cl_p30 B1 q m s g hcan
  replace hK : ∀ k, K ≤ k → laws_FnChangeLeft.p30 k l1 q m s (chgL (q.zip m) s) (canCB q m s).1 (canCB q m s).2 s = some true := hK
  refine ⟨K + 1, fun k n hk hn => ?_⟩
  obtain ⟨n', rfl⟩ : ∃ n', n = n' + 1 := ⟨n - 1, by omega⟩
  rw [laws_FnChangeLeft.l19, if_neg (by rw [decide_eq_false (by omega)]; decide), Int.sub_zero]
  exact hK k (by omega)
 | cons c t ih =>
  intro q a P e h0 h2 hc hP hch
  have hll : l.length = q.length + (t.length + 1) := by rw [← e]; simp
  have hi : q.length < (l.zip m).length := by rw [List.length_zip]; omega
  have hc1 := hf.2.2.1 c (by rw [← e]; simp)
  have er : rd l (q.length : Int) = c := by rw [← e]; exact rd_app q c t
  have ew : wrap64 ((q.length : Int) + 1) = ((q ++ [c]).length : Int) := by rw [w64 (by omega) (by omega)]; simp
  have eg : l[q.length]'(by omega) = c := by
   have := rd_eq l q.length (by omega)
   rw [er] at this; exact this.symm
  have hd : (l.zip m).drop q.length = (c, m[q.length]'(by omega)) :: (l.zip m).drop (q.length + 1) := by
   rw [List.drop_eq_getElem_cons hi, List.getElem_zip, eg]
  have hmx := hm _ (List.getElem_mem (show q.length < m.length by omega))
  have erm : rd m (q.length : Int) = m[q.length]'(by omega) := rd_eq m _ (by omega)
  generalize m[q.length]'(by omega) = u at hd hmx erm
  have hL : ∀ x ∈ (l.zip m).drop (q.length + 1), 1 ≤ x.1 := fun x hx => (hf.2.2.1 x.1 (List.of_mem_zip (List.mem_of_mem_drop hx)).1).1
  rw [hd] at hc hch
  obtain ⟨j, h3, h4, h5, _⟩ := take_can hc
  have h6 := can_ge hL h5
  have hj0 : 0 ≤ (j : Int) * c := Int.mul_nonneg (by omega) (by omega)
  rw [chgL, h3] at hch
  obtain ⟨K, hK⟩ := ih (q ++ [c]) (a - j * c) (P ++ [(j : Int)]) (by rw [← e]; simp) h6 (by omega) (by simpa using h5) (by simp [hP]) (by rw [hch]; simp)
  have erc : rd (chgL (l.zip m) s) (q.length : Int) = j := by rw [hch, ← hP]; exact rd_app P _ _
  refine ⟨K + 1, fun k n hk hn => ?_⟩
  obtain ⟨n', rfl⟩ : ∃ n', n = n' + 1 := ⟨n - 1, by omega⟩
  have hK' := hK k n' (by omega) (by omega)
  rw [laws_FnChangeLeft.l19, if_pos (by rw [decide_eq_true (by omega)]), if_pos (by rw [decide_eq_true (by omega), decide_eq_true (by omega)]; rfl), erc, if_neg (by rw [decide_eq_false (by omega)]; decide), if_pos (by rw [decide_eq_true (by omega), decide_eq_true (by omega)]; rfl), erm, if_neg (by rw [decide_eq_false (by omega)]; decide), if_pos (by rw [decide_eq_true (by omega), decide_eq_true (by omega)]; rfl), er]
  unfold laws_FnChangeLeft.p29
  rw [ew, w64 (n := (j : Int) * c) (by omega) (by omega), w64 (n := s - a + (j : Int) * c) (by omega) (by omega), show s - a + (j : Int) * c = s - (a - j * c) by omega]
  exact hK'
theorem FnChangeLeft : laws_FnChangeLeft.Pure := by
 intro l0 l1 _ _ w0 _ _ w1
 refine Ev.rounds (g := fun k => laws_FnChangeLeft.f k l0 l1) ?_
 unfold laws_FnChangeLeft.f laws_FnChangeLeft.p1
 by_cases hb : laws_big.f l0 l1 = some true
 · exact Ev.bindc hb (Ev.pos rfl (Ev.val rfl))
 obtain ⟨hl0, hl1, hb⟩ := big_no hb
 refine Ev.bindc hb (Ev.neg (by decide) ?_)
 have B0 := bytes_of hl0 w0
 have B1 := bytes_of hl1 w1
 obtain ⟨l, m, s, hD, hl, hm⟩ := drawCanChange_ev B0
 have hD' : Ev (fun k => spec_DrawChangeFrom.f k l0) (l, m, s) := by unfold spec_DrawChangeFrom.f; exact Ev.bind hD (Ev.now _)
 refine Ev.bind hD' (Ev.bind (impl_ChangeFrom.ev l m s (by omega)) (Ev.bind (spec_ChangeFrom.ev l m s (by omega)) (Ev.bind (impl_CanChange.ev l m s (by omega)) (Ev.bind (spec_CanChange.ev l m s (by omega)) ?_))))
 unfold laws_FnChangeLeft.p9
 have hs : ∀ (x : List Int), x.length ≤ 1000000 → Ev (fun k => laws_tSame.f k x x) true := fun x hx => Ev.eq (laws_tSame.ev x x (by omega)) (by simp)
 have hcl : (changeB l m s).1.length ≤ 1000000 := by
  unfold changeB; split
  · simp only; rw [chgL_length, List.length_zip]; omega
  simp
 refine Ev.neg (by simp) (Ev.bind (hs _ hcl) (Ev.neg (by decide) (Ev.neg (by simp) (Ev.neg (by simp) ?_))))
 by_cases g : purseB l m s = true
 · have e : canCB l m s = (canB (l.zip m) s, true) := by rw [canCB, if_pos g]
   have e2 : (changeB l m s).2 = canB (l.zip m) s := by
    unfold changeB
    rw [g, Bool.true_and]
    cases canB (l.zip m) s <;> rfl
   refine Ev.bind (a := canB (l.zip m) s) (Ev.pos (by rw [e]) (Ev.val (by rw [e]))) (Ev.neg (by rw [e2]; simp) (Ev.ite (fun h => ?_) (fun _ => cl_p37 B1 l m s)))
   rw [e2] at h
   have hc := canB_iff.1 h
   have e3 : (changeB l m s).1 = chgL (l.zip m) s := by
    unfold changeB; rw [g, h]; rfl
   rw [e3]
   obtain ⟨gc, h0', h2', hml, hm'⟩ := purse_facts g
   obtain ⟨K, hK⟩ := cl_l19 B1 l m s g hc l [] s [] rfl h0' (Int.le_refl _) (by simpa using hc) rfl (by simp)
   rw [Int.sub_self] at hK
   exact ⟨K, fun k hk => hK k k hk hk⟩
 have e : canCB l m s = (false, false) := by rw [canCB, if_neg g]
 have e2 : changeB l m s = ([], false) := by
  unfold changeB
  rw [Bool.not_eq_true] at g
  rw [g, Bool.false_and]; rfl
 have h37 := cl_p37 B1 l m s
 rw [e] at h37
 rw [e, e2]
 exact Ev.bind (a := false) (Ev.neg (by decide) (Ev.val rfl)) (Ev.neg (by decide) (Ev.neg (by decide) h37))
end Go.Proofs.Ytkbllhlmcfjcdaa.Pure
